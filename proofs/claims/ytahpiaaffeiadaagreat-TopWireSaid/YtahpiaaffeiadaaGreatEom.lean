/- Bytes of one's own whose row may bear a mark behind its end: what '[]byte(s)' makes. What writes a message: num, name, question, room. -/
import Derived.Test.YtahpiaaffeiadaaGreatEpk
namespace Go.Proofs.YtahpiaaffeiadaaGreat
open Go Go.RowKit
/-- v owns these bytes; nothing of its row is frozen. -/
def OwnM (w : World) (base : Nat) (v : Value) (X : List UInt8) : Prop :=
  ∃ (g cap : Nat) (cur : Array Value) (fz : Nat × Nat), v = .slice (some ⟨g, 0, none⟩) X.length cap ∧ base ≤ g ∧ w.heap[g]? = some (.cells cur 5 fz) ∧ (fz.2 = 0 ∨ cur.size ≤ fz.1) ∧ X.length ≤ cap ∧ cap ≤ maxLen ∧ cur.size = cap ∧ cur.toList.take X.length = bytesV X
theorem OwnM.kept {w w' : World} {base : Nat} {v : Value} {X : List UInt8} {row : Option Nat} (h : OwnM w base v X) (hg : w.grownBy w' row) (hne : v.ownBlock ≠ row) : OwnM w' base v X := by
  obtain ⟨g, cap, cur, fz, rfl, h1, h2, h3⟩ := h
  exact ⟨g, cap, cur, fz, rfl, h1, (hg.block g (Array.getElem?_eq_some_iff.1 h2).1 hne).trans h2, h3⟩
theorem OwnM.ext {w w' : World} {base : Nat} {v : Value} {X : List UInt8} (h : OwnM w base v X) (hE : Ext w w') : OwnM w' base v X := by
  obtain ⟨g, cap, cur, fz, rfl, h1, h2, h3⟩ := h
  exact ⟨g, cap, cur, fz, rfl, h1, (hE.block g (Array.getElem?_eq_some_iff.1 h2).1).trans h2, h3⟩
theorem OwnM.sl {w : World} {base : Nat} {v : Value} {X : List UInt8} (h : OwnM w base v X) : Sl w 1 v X.length (bytesV X) := by
  obtain ⟨g, cap, cur, fz, rfl, h1, h2, h3, h4, h5, h6, h7⟩ := h
  refine ⟨_, _, rfl, by rw [bytesV_length]; omega, fun a ha j u hu => ?_, fun h => (by cases h)⟩
  cases ha
  rw [addr_lit]
  rw [← h7, List.getElem?_take] at hu
  split at hu
  · simp only [World.cell?, h2]
    simpa using hu
  · cases hu
theorem OwnM.one {w : World} {base : Nat} {v : Value} {X : List UInt8} (h : OwnM w base v X) : v.oneCell' = true := by
  obtain ⟨g, cap, cur, fz, rfl, _⟩ := h; rfl
/-- Bytes of one's own do not lie in a block that begins with something else. -/
theorem OwnM.off {w : World} {base p : Nat} {v : Value} {X : List UInt8} {cs : List Value} {c : Value} (h : OwnM w base v X) (hX : X ≠ []) (hB : Bx w p (c :: cs)) (hc : ∀ i, c ≠ .int .u8 i) : v.ownBlock ≠ some p := fun e => by
  obtain ⟨T, hT⟩ := hB
  obtain ⟨g, cap, cur, fz, rfl, _, hg, _, _, _, _, ht⟩ := h
  simp only [Value.ownBlock, Option.some.injEq] at e
  rw [e, hT] at hg
  injection hg with hg
  injection hg with hg _ _
  subst hg
  cases X with
  | nil => exact hX rfl
  | cons x X =>
    have h2 : (c :: cs).take (x :: X).length = bytesV (x :: X) := ht
    rw [List.length_cons, List.take_succ_cons] at h2
    injection h2 with h2 _
    exact hc _ h2
theorem OwnM.offmap {w : World} {base bm m' : Nat} {v : Value} {X : List UInt8} {F : List UInt8 → Option Nat} (h : OwnM w base v X) (hM : MapAt w bm m' F) : v.ownBlock ≠ some bm := fun e => by
  obtain ⟨D, ⟨es, clock, hb, _⟩, _⟩ := hM
  obtain ⟨g, cap, cur, fz, rfl, _, hg, _⟩ := h
  simp only [Value.ownBlock, Option.some.injEq] at e
  rw [e, hb] at hg
  cases hg
theorem storeCells_mark (P : Program) (g o : Nat) (t : TypeId) (fz : Nat × Nat) : ∀ (vs : List Value) (i : Nat) (cur : Array Value) (w : World), w.heap[g]? = some (.cells cur t fz) → (fz.2 = 0 ∨ cur.size ≤ fz.1) → o + i + vs.length ≤ cur.size → (∀ v ∈ vs, v.oneCell' = true) →
    (storeCells ⟨g, o, none⟩ vs i).run P w = .ok () (w.setRow g (cur.toList.take (o + i) ++ vs ++ cur.toList.drop (o + i + vs.length)).toArray)
  | [], i, cur, w, hg, _, _, _ => by
    simp only [storeCells, List.append_nil, List.length_nil, Nat.add_zero, List.take_append_drop, Array.toArray_toList]
    rw [setRow_self w g cur t fz hg]
    rfl
  | v :: rest, i, cur, w, hg, hfz, hl, h1 => by
    have hi : o + i < cur.size := by simp at hl; omega
    have hadd : (⟨g, o, none⟩ : Addr).add i = ⟨g, o + i, none⟩ := by unfold Addr.add; split <;> simp_all
    have hcell : w.cell? ⟨g, o + i, none⟩ = some cur[o + i] := by simp [World.cell?, hg, hi]
    have hfro : w.frozen? ⟨g, o + i, none⟩ = false := by
      obtain ⟨lo, hi'⟩ := fz
      simp only [World.frozen?, hg, Bool.and_eq_false_iff, decide_eq_false_iff_not]
      simp only at hfz
      omega
    have hst : (store ((⟨g, o, none⟩ : Addr).add i) v).run P w = .ok () (w.setRow g (cur.setIfInBounds (o + i) v)) := by
      rw [hadd, run_store P w _ v _ (h1 v (by simp)), hcell]
      simp [hfro, setCell_eq_setRow w g (o + i) cur t fz v hg]
    have ih := storeCells_mark P g o t fz rest (i + 1) (cur.setIfInBounds (o + i) v) (w.setRow g (cur.setIfInBounds (o + i) v)) (setRow_heap w g cur _ t _ hg) (by simpa using hfz) (by simp at hl ⊢; omega) (fun x hx => h1 x (by simp [hx]))
    simp only [storeCells, Sem.run_bind, hst, Result.andThen_ok, ih, setRow_setRow]
    congr 3
    have e := list_seg_step cur.toList (o + i) v rest (by simp at hl ⊢; omega)
    simpa [Array.toList_setIfInBounds, Nat.add_assoc] using e
/-- 'append' of a text onto such bytes. -/
theorem Seg.appM {n : Fm} {ops : Array Oper} {Q : Exit → Act → World → Prop} {fr : Fr} {w : World} {T : TypeId} {d U base : Nat} {x y : Operand} {pos : String} {aft : Array Edge} {g : Option (Nat × Bool)} {rest : List Oper} {v : Value} {X m : List UInt8}
    (hg : gd ops fr g = some true) (hd : Nat.blt d n.n = true) (hU : slOf Tryz.prog U = some (5, 0 + 1)) (hx : Fr.ev fr x = some v) (hy : Fr.ev fr y = some (.string ⟨m.toArray⟩)) (ho : OwnM w base v X) (hb : base ≤ w.heap.size) (hl : X.length + m.length ≤ 100000000)
    (k : ∀ v' w1, OwnM w1 base v' (X ++ m) → w.grownBy w1 v.ownBlock → (∀ a0 : World, Ext a0 w → a0.heap.size ≤ base → Ext a0 w1) → w.heap.size ≤ w1.heap.size → Seg Tryz.prog n ops Q rest ((d, v') :: fr) w1) :
    Seg Tryz.prog n ops Q (⟨some d, .call ⟨.builtin .append, #[x, y], #[U, 9]⟩, T, pos, aft, g⟩ :: rest) fr w := by
  obtain ⟨i, hi, hby, hs, hz⟩ := info_all (P := Tryz.prog) (T := 5) (b := 1) (s := 1) (z := .int .u8 0) rfl rfl rfl
  have hml : (ByteArray.mk m.toArray).size = m.length := List.size_toArray
  have hlen : (X ++ m).length = X.length + m.length := List.length_append
  have hund := (und_sl hU).1
  obtain ⟨r, cap, cur, fz, rfl, h1, h2, h3, h4, h5, h6, h7⟩ := ho
  have key : ∃ v' w1, (Builtin.append_ #[U, 9] T #[.slice (some ⟨r, 0, none⟩) X.length cap, .string ⟨m.toArray⟩]).run Tryz.prog w = .ok v' w1 ∧ OwnM w1 base v' (X ++ m) ∧ w.grownBy w1 (some r) := by
    by_cases hroom : X.length + m.length ≤ cap
    · have hf := Lib.run_firstCells_string (P := Tryz.prog) w 1 ⟨m.toArray⟩
      have hst := storeCells_mark Tryz.prog r X.length 5 fz (Lib.strCells ⟨m.toArray⟩) 0 cur w h2 h3 (by rw [Lib.strCells_length, hml]; omega) (Lib.strCells_oneCell _)
      simp only [Nat.add_zero, Lib.strCells_length, hml] at hst
      rw [strCells_of] at hst hf
      rw [hml] at hf
      refine ⟨.slice (some ⟨r, 0, none⟩) (X.length + m.length) cap, _, ?_, ⟨r, cap, (cur.toList.take X.length ++ bytesV m ++ cur.toList.drop (X.length + m.length)).toArray, fz, by rw [hlen], h1, setRow_heap w r cur _ _ fz h2, ?_, by omega, h5, ?_, ?_⟩, ⟨rfl, rfl, rfl, by simp, fun k _ hk => setRow_other w r k _ (fun e => hk (by rw [e]))⟩⟩
      · simp [Builtin.append_, run_underlying hund, run_underlying Tryz.underlying9, sizeOf, typeInfo, hi, hs, Builtin.lenOf, hml, hroom, hf, Addr.add_lit, hst]
      · rcases h3 with h3 | h3
        · exact .inl h3
        · refine .inr ?_
          simp only [List.size_toArray, List.length_append, List.length_take, List.length_drop, Array.length_toList, bytesV_length]
          omega
      · simp only [List.size_toArray, List.length_append, List.length_take, List.length_drop, Array.length_toList, bytesV_length]
        omega
      · rw [h7, ← bytesV_append]
        simp only
        rw [← bytesV_length (X ++ m)]
        exact List.take_left
    · have holds : ∀ j u, (bytesV X)[j]? = some u → w.cell? ((⟨r, 0, none⟩ : Addr).add j) = some u := by
        intro j u hu
        have hO : OwnM w base (.slice (some ⟨r, 0, none⟩) X.length cap) X := ⟨r, cap, cur, fz, rfl, h1, h2, h3, h4, h5, h6, h7⟩
        obtain ⟨a, c, e, _, hr, _⟩ := hO.sl
        cases e
        exact hr _ rfl j u hu
      have hr := Lib.run_append_grow_string (P := Tryz.prog) w U 9 T 5 i (.int .u8 0) hund Tryz.underlying9 hi hz ⟨r, 0, none⟩ X.length cap (bytesV X) (by rw [hs, bytesV_length]; omega) holds ⟨m.toArray⟩ (by rw [hml]; omega) (by rw [hml]; omega) (by rw [hby]; exact growslice_fits (by rw [hml]; omega) (by rw [hml]; omega))
      have hge := grownCap_ge w (X.length + m.length) cap 5
      have hcm2 : grownCap w (X.length + m.length) cap 5 ≤ maxLen := grownCap_le_maxLen w (X.length + m.length) cap 5 (by unfold maxLen; omega)
      rw [hml, strCells_of] at hr
      refine ⟨_, _, hr, ⟨w.heap.size, _, _, (0, 0), by rw [hlen], hb, heap_alloc_new w.drew _, .inl rfl, by rw [hlen]; exact hge, hcm2, ?_, ?_⟩, ⟨rfl, rfl, rfl, by simp, fun k hk _ => heap_alloc_old w.drew _ hk⟩⟩
      · have hz1 : (Value.int IntKind.u8 0).cells.size = 1 := rfl
        simp only [Array.size_append, List.size_toArray, size_zeroCells, hz1, bytesV_length]
        omega
      · simp only [Array.toList_append, List.append_assoc]
        rw [← List.append_assoc, ← bytesV_append, ← bytesV_length (X ++ m)]
        exact List.take_left
  obtain ⟨v', w1, hrun, hN, hG⟩ := key
  refine Seg.step hg hd (.val fun a ha d pos aft g => ?_) (k v' w1 hN hG (fun a0 hE h => ⟨hG.os.trans hE.os, hG.tape.trans hE.tape, hG.output.trans hE.output, Nat.le_trans hE.size hG.size, fun k hk => (hG.block k (Nat.lt_of_lt_of_le hk hE.size) (fun e => by cases e; omega)).trans (hE.block k hk)⟩) hG.size)
  simp [execOp, resolve, invoke, builtin, ha.ev hx, ha.ev hy, hrun]
/-- '[]byte(s)', as bytes of one's own. -/
theorem Seg.stbM {d : Nat} {U : Nat} {n : Fm} {ops : Array Oper} {Q : Exit → Act → World → Prop} {fr : Fr} {w : World} {T : TypeId} {x : Operand} {pos : String} {aft : Array Edge} {g : Option (Nat × Bool)} {rest : List Oper} {l : List UInt8}
    (hg : gd ops fr g = some true) (hd : Nat.blt d n.n = true) (hD : slOf Tryz.prog U = some (5, 0 + 1)) (hx : Fr.ev fr x = some (.string ⟨l.toArray⟩)) (hl : l.length ≤ 100000000)
    (kk : ∀ v w1, Ext w w1 → OwnM w1 w.heap.size v l → Seg Tryz.prog n ops Q rest ((d, v) :: fr) w1) :
    Seg Tryz.prog n ops Q (⟨some d, .convert 9 U x, T, pos, aft, g⟩ :: rest) fr w := by
  have hrun := Lib.run_convert_string_bytes (P := Tryz.prog) w 9 U 5 ⟨l.toArray⟩ Tryz.underlying9 (und_sl hD).1 Tryz.underlying5
  have hsz : (ByteArray.mk l.toArray).size = l.length := List.size_toArray
  have hn := Lib.bytesWorld_at_new w 5 ⟨l.toArray⟩
  have hge := grownCap_ge w l.length 0 5
  have hcm := grownCap_le_maxLen w l.length 0 5 (by unfold maxLen; omega)
  have hc : Lib.bytesCells w 5 ⟨l.toArray⟩ = (bytesV l ++ List.replicate (grownCap w (ByteArray.mk l.toArray).size 0 5 - (ByteArray.mk l.toArray).size) (Value.int .u8 0)).toArray := by
    apply Array.ext'
    simp [Lib.bytesCells, bytesV]
  rw [hsz] at hc hrun
  refine Seg.step hg hd (w' := Lib.bytesWorld w 5 ⟨l.toArray⟩) (.val fun a ha d pos aft g => ?_) (kk _ _ ⟨rfl, rfl, rfl, by rw [Lib.bytesWorld_size]; omega, fun j hj => Lib.bytesWorld_at_old w _ _ j hj⟩ ⟨w.heap.size, _, _, _, rfl, Nat.le_refl _, hn, .inr (Nat.le_refl _), hge, hcm, ?_, ?_⟩)
  · simp only [execOp, ha.ev hx]
    rw [Sem.run_bind, hrun]
    rfl
  · rw [hc, List.size_toArray, List.length_append, bytesV_length, List.length_replicate]
    omega
  · rw [hc, List.toList_toArray, ← bytesV_length l]
    exact List.take_left
end Go.Proofs.YtahpiaaffeiadaaGreat
namespace Go.Proofs.YtahpiaaffeiadaaGreat
open Go Go.RowKit
/-- The writer at p has written X; its table answers as F. -/
def WrAt (w : World) (p base : Nat) (X : List UInt8) (b bm m : Nat) (F : List UInt8 → Option Nat) : Prop :=
  ∃ vo, Bx w p [vo, .pointer (some ⟨b, 0, none⟩)] ∧ OwnM w base vo X ∧ TabAt w b bm m F ∧ X ≠ []
theorem WrAt.ext {w w' : World} {p base b bm m : Nat} {X : List UInt8} {F : List UInt8 → Option Nat} (h : WrAt w p base X b bm m F) (hE : Ext w w') : WrAt w' p base X b bm m F := by
  obtain ⟨vo, h1, h2, ⟨h3, h4, h5⟩, h6⟩ := h
  exact ⟨vo, h1.ext hE, h2.ext hE, ⟨h3.ext hE, h4.ext hE, h5⟩, h6⟩
theorem bx_ne_map {w : World} {p bm m : Nat} {cs : List Value} {F : List UInt8 → Option Nat} (h : Bx w p cs) (hM : MapAt w bm m F) : p ≠ bm := fun e => by
  obtain ⟨D, ⟨es, clock, hb, _⟩, _⟩ := hM
  obtain ⟨T, hT⟩ := h
  rw [e, hb] at hT
  cases hT
theorem bx_ne {w : World} {p q : Nat} {cs ds : List Value} (h : Bx w p cs) (hq : Bx w q ds) (hl : cs.length ≠ ds.length) : p ≠ q := fun e => by
  obtain ⟨T, hT⟩ := h
  obtain ⟨U, hU⟩ := hq
  rw [e, hU] at hT
  injection hT with hT
  injection hT with hT _ _
  have h2 := congrArg Array.size hT
  simp only [List.size_toArray] at h2
  exact hl h2.symm
theorem slc_int (a : Option Addr) (m c : Nat) : ∀ i, Value.slice a m c ≠ .int .u8 i := fun _ h => by cases h
theorem TabAt.ext {w w' : World} {b bm m : Nat} {F : List UInt8 → Option Nat} (h : TabAt w b bm m F) (hE : Ext w w') : TabAt w' b bm m F := ⟨h.1.ext hE, h.2.1.ext hE, h.2.2⟩
theorem WrAt.mid {w w1 : World} {p base : Nat} {X : List UInt8} {vo c : Value} (h1 : Bx w p [vo, c]) (h2 : OwnM w base vo X) (hX : X ≠ []) (hg : w.grownBy w1 vo.ownBlock) : Bx w1 p [vo, c] :=
  h1.grown hg (fun e => h2.off hX h1 (by obtain ⟨g, cap, cur, fz, rfl, _⟩ := h2; exact slc_int _ _ _) e.symm)
/-- What begins with no number, and is not at p, stays. -/
def KeepB (p : Nat) (w w' : World) : Prop := ∀ q c cs, Bx w q (c :: cs) → (∀ i, c ≠ .int .u8 i) → q ≠ p → Bx w' q (c :: cs)
theorem KeepB.of {p : Nat} {w w' : World} (h : Ext w w') : KeepB p w w' := fun _ _ _ hB _ _ => hB.ext h
theorem KeepB.trans {p : Nat} {u v w : World} (h : KeepB p u v) (k : KeepB p v w) : KeepB p u w := fun q c cs hB hc hq => k q c cs (h q c cs hB hc hq) hc hq
theorem KeepB.own {p base : Nat} {w w1 w2 : World} {v : Value} {X : List UInt8} (h2 : OwnM w base v X) (hX : X ≠ []) (hg : w.grownBy w1 v.ownBlock) (hW : Wr p w1 w2) : KeepB p w w2 := fun _ _ _ hB hc hq =>
  (hB.grown hg (fun e => h2.off hX hB hc e.symm)).wr hW hq
theorem KeepB.map {p bm m : Nat} {w w1 : World} {F : List UInt8 → Option Nat} (hM : MapAt w bm m F) (hW : Wr bm w w1) : KeepB p w w1 := fun _ _ _ hB _ _ => hB.wr hW (bx_ne_map hB hM)
/-- What is appended, and stored back. -/
theorem WrAt.put {w w1 w2 : World} {p base b bm m : Nat} {X Y : List UInt8} {F : List UInt8 → Option Nat} {vo v' : Value} (h1 : Bx w p [vo, .pointer (some ⟨b, 0, none⟩)]) (h2 : OwnM w base vo X) (h3 : TabAt w b bm m F) (hX : X ≠ []) (hY : Y ≠ [])
    (hO : OwnM w1 base v' Y) (hg : w.grownBy w1 vo.ownBlock) (hW : Wr p w1 w2) (hB : Bx w2 p [v', .pointer (some ⟨b, 0, none⟩)]) : WrAt w2 p base Y b bm m F := by
  obtain ⟨t1, t2, t3⟩ := h3
  have hvo : ∀ i, vo ≠ .int .u8 i := by
    obtain ⟨g, cap, cur, fz, rfl, _⟩ := h2; exact slc_int _ _ _
  have o1 := h2.off hX h1 hvo
  have o2 := h2.off hX t1 (fun _ h => by cases h)
  have o3 := h2.offmap t2
  have n1 := bx_ne h1 t1 (fun h => by cases h)
  have n2 := bx_ne_map h1 t2
  have h1' := h1.grown hg (fun e => o1 e.symm)
  have t1' := t1.grown hg (fun e => o2 e.symm)
  have t2' := t2.kept hg (fun e => o3 e.symm)
  have o4 := hO.off hY h1' hvo
  exact ⟨v', hB, hO.kept hW o4, ⟨t1'.wr hW (fun e => n1 e.symm), t2'.wr hW (fun e => n2 e.symm), t3⟩, hY⟩
theorem wnum_any (a0 : World) (p base b bm m k v : Nat) (X : List UInt8) (F : List UInt8 → Option Nat) (w : World) (h : WrAt w p base X b bm m F) (ha : Ext a0 w) (hp : a0.heap.size ≤ p) (hab : a0.heap.size ≤ base) (hb : base ≤ w.heap.size) (hk : k ≤ 4) (hv : v < 4611686018427387904) (hl : X.length ≤ 1000000) :
    Ret Tryz.prog 48 #[.pointer (some ⟨p, 0, none⟩), .int .i64 (k : Int), .int .i64 (v : Int)] w fun _ w' => WrAt w' p base (X ++ beB k v) b bm m F ∧ Ext a0 w' ∧ w.heap.size ≤ w'.heap.size ∧ KeepB p w w' := by
  have hE0 := Ext.refl w
  obtain ⟨vo, h1, h2, h3, hX⟩ := h
  have hbl := beB_len k v
  refine Ret.body Tryz.func48 rfl Tryz.ntmps48 rfl (Cd.anyE (by kernel_rfl) (fun w4 hE4 => ?_))
  replace ha := Ext.trans ha hE4
  replace hE0 := Ext.trans hE0 hE4
  replace h1 := h1.ext hE4
  replace h2 := h2.ext hE4
  replace h3 := h3.ext hE4
  refine SegA.pure 0 rfl (by kernel_rfl) (by kernel_rfl) (by kernel_rfl) rfl rfl (fun _ => Yd.move rfl) (SegA.pure 1 rfl (by kernel_rfl) (by kernel_rfl) (by kernel_rfl) rfl rfl (fun _ => Yd.move rfl) (SegA.pure 2 rfl (by kernel_rfl) (by kernel_rfl) (by kernel_rfl) rfl rfl (fun _ => Yd.nilCheckP rfl) (SegA.pure 3 rfl (by kernel_rfl) (by kernel_rfl) (by kernel_rfl) rfl rfl (fun _ => Yd.fieldAddr rfl rfl) (SegA.pure 5 rfl (by kernel_rfl) (by kernel_rfl) (by kernel_rfl) rfl rfl (fun _ => Yd.move rfl) (SegA.pure 6 rfl (by kernel_rfl) (by kernel_rfl) (by kernel_rfl) rfl rfl (fun _ => Yd.move rfl) (SegA.held 8 (SegG.take 4 rfl (by kernel_rfl) (by kernel_rfl) (by kernel_rfl) (by kernel_rfl) (by kernel_rfl) rfl rfl (fun w' hw' => Yd.load1 rfl rfl ((h1.ext hw').row _ _ rfl)) ?_)))))))
  refine SegG.oneSeg (o := ⟨_, _, _, _, _, _⟩) 7 rfl (by kernel_rfl) ?_
  (refine Seg.call rfl rfl (own_of rfl) rfl (oput_any k v _ hk hv) ?_; rintro _ w14 ⟨rfl, hE14⟩)
  replace hE4 := Ext.trans hE4 hE14
  replace ha := Ext.trans ha hE14
  replace hE0 := Ext.trans hE0 hE14
  replace h1 := h1.ext hE14
  replace h2 := h2.ext hE14
  replace h3 := h3.ext hE14
  refine SegG.back rfl (by first | assumption | exact Ext.refl _) (SegG.oneSeg (o := ⟨_, _, _, _, _, _⟩) 8 rfl (by kernel_rfl) ?_)
  (refine Seg.appM (m := beB k v) rfl rfl rfl rfl rfl h2 (Nat.le_trans hb (Below.size hE0)) (by omega) (fun v17 w17 hO17 hg17 hX17 hS17 => ?_); have hB9 := WrAt.mid h1 h2 hX hg17; have hE9 := hX17 a0 ha hab; have hS9 := Nat.le_trans (Below.size hE0) hS17; have hO9 := hO17; have hg9 := hg17; have h19 := h1; have h29 := h2; have h39 := h3; have hK9 := KeepB.of (p := p) hE0; clear hX17 hO17 hg17 hE0 ha h1)
  refine SegG.end_ rfl (SegA.pure 9 rfl (by kernel_rfl) (by kernel_rfl) (by kernel_rfl) rfl rfl (fun _ => Yd.nilCheckP rfl) (SegA.pure 10 rfl (by kernel_rfl) (by kernel_rfl) (by kernel_rfl) rfl rfl (fun _ => Yd.fieldAddr rfl rfl) (SegA.oneSeg (o := ⟨_, _, _, _, _, _⟩) 11 rfl (by kernel_rfl) ?_)))
  (refine Seg.store1 (k := 0) rfl rfl rfl rfl hO9.one hB9 (by show 0 < 2; omega) (fun w22 hW22 hB22 => ?_); have hP9 : WrAt w22 p base (X ++ beB k v) b bm m F := WrAt.put h19 h29 h39 hX (by simp [hX]) hO9 hg9 hW22 hB22; have hE8 := Ext.wr' hE9 hW22 hp; have hS8 := Nat.le_trans hS9 hW22.size; have hK8 := hK9.trans (KeepB.own h29 hX hg9 hW22))
  refine SegA.back (SegA.done (by kernel_rfl) ?_)
  exact At.fin Tryz.results48 .nil ⟨hP9, hE8, hS8, hK8⟩
theorem wname_any (a0 : World) (n : List (List UInt8)) (v0 : Value) (p base b bm m k : Nat) (X out : List UInt8) (F : List UInt8 → Option Nat) (w : World) (h : WrAt w p base X b bm m F) (ha : Ext a0 w) (hp : a0.heap.size ≤ p) (hbm : a0.heap.size ≤ bm) (hab : a0.heap.size ≤ base) (hb : base ≤ w.heap.size) (hl : X.length ≤ 1000000)
    (h0 : NameAt a0 v0 n) (hz : szN n ≤ 1000) (hc : chkN n = 0) (hm : m ≤ 1000000) (hol : out.length ≤ 1000000)
    (hk : (∃ to, k < n.length ∧ F (octN (n.drop k)) = some to ∧ to < 16384 ∧ out = octN (n.take k) ++ beB 2 (49152 + to)) ∨ (k = n.length ∧ out = octN n ++ [0])) (hno : ∀ j, j < k → F (octN (n.drop j)) = none) :
    Ret Tryz.prog 47 #[.pointer (some ⟨p, 0, none⟩), v0] w fun v w' => v = .int .i64 0 ∧ WrAt w' p base (X ++ out) b bm (m + k) (addF' F n X.length k) ∧ Ext a0 w' ∧ w.heap.size ≤ w'.heap.size ∧ KeepB p w w' := by
  have hE0 := Ext.refl w
  obtain ⟨vo, h1, h2, h3, hX⟩ := h
  have hvo : ∀ i, vo ≠ .int .u8 i := by
    obtain ⟨g, cap, cur, fz, rfl, _⟩ := h2; exact slc_int _ _ _
  obtain ⟨ao, co, rfl, _, _, _⟩ := h2.sl
  refine Ret.body Tryz.func47 rfl Tryz.ntmps47 rfl (Cd.seq (Cd.region (Seg.step rfl rfl (Yd.assign rfl) (Seg.nil (At.then_ (Cd.seq (Cd.heldB bm 16 (by kernel_rfl) (fun w2 hE2 => ?_))))))))
  have h1 := h1.ext hE2
  have h3 := h3.ext hE2
  have ha := Ext.trans ha hE2
  have hE0 := hE2
  have hpm := bx_ne_map h1 h3.2.1
  refine SegB.take 0 rfl (by kernel_rfl) (by kernel_rfl) (by kernel_rfl) (by kernel_rfl) (by kernel_rfl) rfl rfl (fun w' hw' => Yd.move rfl) (SegB.take 1 rfl (by kernel_rfl) (by kernel_rfl) (by kernel_rfl) (by kernel_rfl) (by kernel_rfl) rfl rfl (fun w' hw' => Yd.nilCheckP rfl) (SegB.take 2 rfl (by kernel_rfl) (by kernel_rfl) (by kernel_rfl) (by kernel_rfl) (by kernel_rfl) rfl rfl (fun w' hw' => Yd.fieldAddr rfl rfl) (SegB.take 3 rfl (by kernel_rfl) (by kernel_rfl) (by kernel_rfl) (by kernel_rfl) (by kernel_rfl) rfl rfl (fun w' hw' => Yd.load1 rfl rfl ((h1.wr hw' hpm).row _ _ rfl)) (SegB.take 4 rfl (by kernel_rfl) (by kernel_rfl) (by kernel_rfl) (by kernel_rfl) (by kernel_rfl) rfl rfl (fun w' hw' => Yd.move rfl) (SegB.take 5 rfl (by kernel_rfl) (by kernel_rfl) (by kernel_rfl) (by kernel_rfl) (by kernel_rfl) rfl rfl (fun w' hw' => Yd.move rfl) (SegB.take 6 rfl (by kernel_rfl) (by kernel_rfl) (by kernel_rfl) (by kernel_rfl) (by kernel_rfl) rfl rfl (fun w' hw' => Yd.nilCheckP rfl) (SegB.take 7 rfl (by kernel_rfl) (by kernel_rfl) (by kernel_rfl) (by kernel_rfl) (by kernel_rfl) rfl rfl (fun w' hw' => Yd.fieldAddr rfl rfl) ?_)))))))
  refine SegB.take 8 rfl (by kernel_rfl) (by kernel_rfl) (by kernel_rfl) (by kernel_rfl) (by kernel_rfl) rfl rfl (fun w' hw' => Yd.load1 rfl rfl ((h1.wr hw' hpm).row _ _ rfl)) (SegB.take 9 rfl (by kernel_rfl) (by kernel_rfl) (by kernel_rfl) (by kernel_rfl) (by kernel_rfl) rfl rfl (fun w' hw' => Yd.lenS rfl rfl) (SegB.oneSeg (o := ⟨_, _, _, _, _, _⟩) 10 rfl (by kernel_rfl) (Seg.call rfl rfl (own_of rfl) rfl (pput_any n v0 _ b bm m X.length k out F (Sl.ext h0 ha) hz hc h3 hm hl hk hno) ?_)))
  rintro _ w3 ⟨rfl, hT8, hW3⟩
  have h18 := h1.wr hW3 hpm
  have h28 : OwnM w3 base (.slice ao X.length co) X := (h2.ext hE0).kept hW3 ((h2.ext hE0).offmap h3.2.1)
  have hE8 := Ext.wr' ha hW3 hbm
  have hS8 := Nat.le_trans (Below.size hE0) hW3.size
  have hEn := Ext.refl w3
  have hK3 := (KeepB.of (p := p) hE0).trans (KeepB.map h3.2.1 hW3)
  clear h1 h3 ha hE0 h2 hk
  refine SegB.back rfl hW3 (SegB.take 11 rfl (by kernel_rfl) (by kernel_rfl) (by kernel_rfl) (by kernel_rfl) (by kernel_rfl) rfl rfl (fun w' hw' => Yd.move rfl) (SegB.take 12 rfl (by kernel_rfl) (by kernel_rfl) (by kernel_rfl) (by kernel_rfl) (by kernel_rfl) rfl rfl (fun w' hw' => Yd.extract rfl rfl) (SegB.take 13 rfl (by kernel_rfl) (by kernel_rfl) (by kernel_rfl) (by kernel_rfl) (by kernel_rfl) rfl rfl (fun w' hw' => Yd.extract rfl rfl) (SegB.take 14 rfl (by kernel_rfl) (by kernel_rfl) (by kernel_rfl) (by kernel_rfl) (by kernel_rfl) rfl rfl (fun w' hw' => Yd.assign rfl) (SegB.take 15 rfl (by kernel_rfl) (by kernel_rfl) (by kernel_rfl) (by kernel_rfl) (by kernel_rfl) rfl rfl (fun w' hw' => Yd.assign rfl) (SegB.done (by kernel_rfl) (At.then_ ?_)))))))
  refine Cd.seq (Cd.region (Seg.step rfl rfl (Yd.move rfl) (Seg.step rfl rfl (Yd.move rfl) (Seg.step rfl rfl (Yd.nilCheckP rfl) (Seg.step rfl rfl (Yd.fieldAddr rfl rfl) (Seg.step rfl rfl (Yd.load1 rfl rfl (h18.row _ _ rfl)) (Seg.step rfl rfl (Yd.move rfl) ?_)))))))
  (refine Seg.appM (m := out) rfl rfl rfl rfl rfl (h28.ext hEn) (Nat.le_trans hb (Nat.le_trans hS8 (Below.size hEn))) (by omega) (fun v37 w37 hO37 hg37 hX37 hS37 => ?_); have hB9 := WrAt.mid h18 (h28.ext hEn) hX hg37; have hE9 := hX37 a0 hE8 hab; have hS9 := Nat.le_trans (Nat.le_trans hS8 (Below.size hEn)) hS37; have hO9 := hO37; have hg9 := hg37; have h19 := h18; have h29 := h28.ext hEn; have h39 := hT8; have hK9 := hK3.trans (KeepB.of (p := p) hEn); clear hX37 hO37 hg37 hEn hE8 h18 hT8)
  refine Seg.step rfl rfl (Yd.nilCheckP rfl) (Seg.step rfl rfl (Yd.fieldAddr rfl rfl) ?_)
  (refine Seg.store1 (k := 0) rfl rfl rfl rfl hO9.one hB9 (by show 0 < 2; omega) (fun w40 hW40 hB40 => ?_); have hP9 : WrAt w40 p base (X ++ out) b bm (m + k) (addF' F n X.length k) := WrAt.put h19 h29 h39 hX (by simp [hX]) hO9 hg9 hW40 hB40; have hE7 := Ext.wr' hE9 hW40 hp; have hS7 := Nat.le_trans hS9 hW40.size; have hK7 := hK9.trans (KeepB.own h29 hX hg9 hW40))
  refine Seg.nil (At.then_ (Cd.seq (Cd.region (Seg.step rfl rfl (Yd.move rfl) (Seg.step rfl rfl (Yd.assign rfl) (Seg.nil (At.then_ ?_)))))))
  refine Cd.ret ?_
  exact At.ret Tryz.results47 (.tmp rfl .nil) ⟨rfl, hP9, hE7, hS7, hK7⟩
theorem wroom_any (p base b bm m : Nat) (X : List UInt8) (F : List UInt8 → Option Nat) (w : World) (h : WrAt w p base X b bm m F) (hl : X.length ≤ 65535) : Ret Tryz.prog 18 #[.pointer (some ⟨p, 0, none⟩), .int .i64 0] w fun v w' => v = .int .i64 0 ∧ Ext w w' := by
  have hE0 := Ext.refl w
  obtain ⟨vo, h1, h2, h3, hX⟩ := h
  obtain ⟨ao, co, rfl, _, _, _⟩ := h2.sl
  refine Ret.body Tryz.func18 rfl Tryz.ntmps18 rfl (Cd.seq (Cd.region (Seg.step rfl rfl (Yd.assign rfl) (Seg.nil (At.then_ (Cd.seq (Cd.seq ?_)))))))
  refine Cd.region (Seg.step rfl rfl (Yd.move rfl) (Seg.step rfl rfl (Yd.eql rfl rfl) (Seg.step rfl rfl (Yd.move rfl) (Seg.step rfl rfl (Yd.move rfl) (Seg.step rfl rfl (Yd.nilCheckP rfl) (Seg.step rfl rfl (Yd.fieldAddr rfl rfl) (Seg.step rfl rfl (Yd.load1 rfl rfl (h1.row _ _ rfl)) ?_)))))))
  refine Seg.step rfl rfl (Yd.lenS rfl rfl) (Seg.step rfl rfl (Yd.gtr rfl rfl) (Seg.step rfl rfl (Yd.pickT rfl rfl) (Seg.nil (At.then_ ?_))))
  refine Cd.condk rfl (fun h24 => ?_) (fun h24 => ?_)
  · exfalso; omega
  · refine Cd.skip (At.then_ (Cd.seq (Cd.region (Seg.step rfl rfl (Yd.move rfl) (Seg.step rfl rfl (Yd.assign rfl) (Seg.nil (At.then_ ?_)))))))
    refine Cd.ret ?_
    exact At.ret Tryz.results18 (.tmp rfl .nil) ⟨rfl, hE0⟩
theorem wquestion_any (a0 : World) (n : List (List UInt8)) (v0 : Value) (p base b bm m k kind cls : Nat) (X out : List UInt8) (F : List UInt8 → Option Nat) (w : World) (h : WrAt w p base X b bm m F) (ha : Ext a0 w) (hp : a0.heap.size ≤ p) (hbm : a0.heap.size ≤ bm) (hab : a0.heap.size ≤ base) (hb : base ≤ w.heap.size) (hl : X.length ≤ 900000)
    (h0 : NameAt a0 v0 n) (hz : szN n ≤ 1000) (hc : chkN n = 0) (hm : m ≤ 1000000) (hol : out.length ≤ 1000) (hki : kind < 65536) (hcl : cls < 65536)
    (hk : (∃ to, k < n.length ∧ F (octN (n.drop k)) = some to ∧ to < 16384 ∧ out = octN (n.take k) ++ beB 2 (49152 + to)) ∨ (k = n.length ∧ out = octN n ++ [0])) (hno : ∀ j, j < k → F (octN (n.drop j)) = none) :
    Ret Tryz.prog 19 #[.pointer (some ⟨p, 0, none⟩), .agg #[v0, .int .i64 (kind : Int), .int .i64 (cls : Int)]] w fun v w' => v = .int .i64 0 ∧ WrAt w' p base (X ++ out ++ beB 2 kind ++ beB 2 cls) b bm (m + k) (addF' F n X.length k) ∧ Ext a0 w' ∧ w.heap.size ≤ w'.heap.size ∧ KeepB p w w' := by
  have hE0 := Ext.refl w
  have hpw : p < w.heap.size := by obtain ⟨vo, h1, _⟩ := h; exact h1.lt
  have hsl : ∃ ao co, v0 = .slice ao n.length co := by obtain ⟨ao, co, e, _⟩ := h0; exact ⟨ao, co, e⟩
  obtain ⟨ao, co, rfl⟩ := hsl
  have hb1 := beB_len 2 kind
  have hl1 : (X ++ out).length = X.length + out.length := List.length_append
  have hl2 : (X ++ out ++ beB 2 kind).length = X.length + out.length + 2 := by rw [List.length_append, hl1, hb1]
  refine Ret.body Tryz.func19 rfl Tryz.ntmps19 rfl (Cd.seq (Cd.region (Seg.box rfl rfl rfl (fun w5 b5 hE5 hB5 hb5 => ?_))))
  have hlt5_0 := Nat.le_trans ha.size hb5
  have hlt5_1 := Nat.le_trans hE0.size hb5
  replace h := h.ext hE5
  replace ha := Ext.trans ha hE5
  replace hE0 := Ext.trans hE0 hE5
  refine Seg.step rfl rfl (Yd.assign rfl) (Seg.nil (At.then_ (Cd.seq (Cd.region (Seg.step rfl rfl (Yd.move rfl) (Seg.step rfl rfl (Yd.fieldAddr rfl rfl) (Seg.step rfl rfl (Yd.load1 rfl rfl (hB5.row _ _ rfl)) ?_)))))))
  (refine Seg.call rfl rfl (own_of rfl) rfl (wname_any a0 n _ p base b bm m k X out F _ h ha hp hbm hab (Nat.le_trans hb (Below.size hE0)) (by omega) h0 hz hc hm (by omega) hk hno) ?_; rintro _ w14 ⟨rfl, hP14, hE14, hS14, hK14⟩; have hP6 := hP14; have hE6 := hE14; have hS6 := Nat.le_trans (Below.size hE0) hS14; have hB6 := hK14 _ _ _ hB5 (slc_int _ _ _) (by omega); have hK6 := (KeepB.of (p := p) hE0).trans hK14; clear h ha hE0 hB5 hP14 hE14 hS14 hK14 hk)
  refine Seg.step rfl rfl (Yd.assign rfl) (Seg.nil (At.then_ (Cd.seq (Cd.region (Seg.step rfl rfl (Yd.move rfl) (Seg.step rfl rfl (Yd.fieldAddr rfl rfl) (Seg.step rfl rfl (Yd.load1 rfl rfl (hB6.row _ _ rfl)) ?_)))))))
  (refine Seg.call rfl rfl (own_of rfl) rfl (wnum_any a0 p base b bm (m + k) 2 kind (X ++ out) _ _ hP6 hE6 hp hab (Nat.le_trans hb hS6) (by omega) (by omega) (by omega)) ?_; rintro _ w23 ⟨hP23, hE23, hS23, hK23⟩; have hP7 := hP23; have hE7 := hE23; have hS7 := Nat.le_trans hS6 hS23; have hB7 := hK23 _ _ _ hB6 (slc_int _ _ _) (by omega); have hK7 := hK6.trans hK23; clear hP23 hE23 hS23 hK23 hP6 hE6 hS6 hB6 hK6)
  refine Seg.nil (At.then_ (Cd.seq (Cd.region (Seg.step rfl rfl (Yd.move rfl) (Seg.step rfl rfl (Yd.fieldAddr rfl rfl) (Seg.step rfl rfl (Yd.load1 rfl rfl (hB7.row _ _ rfl)) ?_))))))
  (refine Seg.call rfl rfl (own_of rfl) rfl (wnum_any a0 p base b bm (m + k) 2 cls (X ++ out ++ beB 2 kind) _ _ hP7 hE7 hp hab (Nat.le_trans hb hS7) (by omega) (by omega) (by omega)) ?_; rintro _ w31 ⟨hP31, hE31, hS31, hK31⟩; have hP8 := hP31; have hE8 := hE31; have hS8 := Nat.le_trans hS7 hS31; have hK8 := hK7.trans hK31; clear hP31 hE31 hS31 hK31 hP7 hE7 hS7 hB7 hK7)
  refine Seg.nil (At.then_ (Cd.seq (Cd.region (Seg.step rfl rfl (Yd.move rfl) (Seg.step rfl rfl (Yd.assign rfl) (Seg.nil (At.then_ ?_)))))))
  refine Cd.ret ?_
  exact At.ret Tryz.results19 (.tmp rfl .nil) ⟨rfl, hP8, hE8, hS8, hK8⟩
end Go.Proofs.YtahpiaaffeiadaaGreat
