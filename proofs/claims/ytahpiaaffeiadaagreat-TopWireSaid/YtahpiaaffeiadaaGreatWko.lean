/- Rules: regions that draw their order, in which one block is written by calls, and the reads look elsewhere: the reads are taken first. Drawn regions in which one of two operations comes next. Append, with the place of the new slice told. Rules: a text's bytes, copied into a block of one's own. Rules: a struct stored over a part of a block of one's own; rows of structs. Slices made with a length that is told at run time. -/
import Derived.Test.YtahpiaaffeiadaaGreatWku
import Derived.Maps.AppendAt
import Derived.Lib.ConvBytes
import Derived.Laws.Tables
import Derived.Test.YtahpiaaffeiadaaGreatWky
import Derived.Laws.MakeOwn
namespace Go.Proofs.YtahpiaaffeiadaaGreat
open Go Go.RowKit
/-- What is left of such a region, from a world w on: what comes ahead of number z writes block b alone. -/
structure SegB (P : Program) (n : Fm) (ops : Array Oper) (Q : Exit → Act → World → Prop) (b z fuel : Nat) (listed : Array Bool) (fr : Fr) (w : World) : Prop where
  out : ∀ a, Fr.Of fr n a → wpAnyG P .any ops (NoPanic Q) (Wr b w) z fuel listed a w
def BPost (P : Program) (ops : Array Oper) (Q : Exit → Act → World → Prop) (b z fuel : Nat) (listed : Array Bool) (i : Nat) (w : World) : Exit → Act → World → Prop := fun e a' w' =>
  e = .normal ∧ if i < z then Wr b w w' ∧ wpAnyG P .any ops (NoPanic Q) (Wr b w') z fuel listed a' w' else wpAny P .any ops (NoPanic Q) fuel listed a' w'
section
variable {P : Program} {n : Fm} {ops : Array Oper} {Q : Exit → Act → World → Prop} {b z fuel : Nat} {listed : Array Bool} {fr : Fr} {w : World}
theorem Cd.heldB (b z : Nat) {id : Nat} {l : List Oper} (hm : P.follows .mixedOrders = true) (h : ∀ w1, Ext w w1 → SegB P n l.toArray Q b z l.length (Array.replicate l.length false) fr w1) : Cd P n Q (.region id l.toArray true) fr w := .mk fun _ ha =>
  wp_region_noPanic (wp_region_any hm (wpAny_of_G _ _ _ _ (by simpa using (h w.drew (Ext.drew w)).out _ ha)))
theorem SegB.take (i : Nat) {d : Nat} {op : Op} {T : TypeId} {pos : String} {aft : Array Edge} {g : Option (Nat × Bool)} {v : Value}
    (hi : ops[i]? = some ⟨some d, op, T, pos, aft, g⟩) (hs : Region.noSelect ops = true) (hf : Region.free .any ops listed i = true) (hr : (Region.ready .any ops listed).contains i = true) (hz : Nat.blt i z = true) (ht : tailWaits .any ops z i = true)
    (hg : gd ops fr g = some true) (hd : Nat.blt d n.n = true) (hy : ∀ w', Wr b w w' → Yd P n op T fr w' v w')
    (k : SegB P n ops Q b z fuel (listed.setIfInBounds i true) ((d, v) :: fr) w) : SegB P n ops Q b z (fuel + 1) listed fr w := .mk fun a ha =>
  wpAnyG_first hi (Nat.le_of_ble_eq_true hz) ht (Region.noSelect_spec hs) (fun _ _ _ h => h) fuel listed a w (Region.free_spec hi hf) (by simpa using hr)
    (.inl ⟨gd_wanted ha (o := ⟨some d, op, T, pos, aft, g⟩) hg, fun w' hw' => (hy w' hw').out a ha _ _ _ _⟩) (Ext.wr (Ext.refl w) b) (k.out _ (ha.put hd _))
theorem SegB.oneSeg (i : Nat) {o : Oper} (hi : ops[i]? = some o) (hr : Region.ready .any ops listed = [i]) (h : Seg P n ops (BPost P ops Q b z fuel (listed.setIfInBounds i true) i w) [o] fr w) : SegB P n ops Q b z (fuel + 1) listed fr w := .mk fun a ha => by
  refine ⟨fun h0 => (by rw [h0] at hr; cases hr), fun j hj => ?_⟩
  rw [hr] at hj
  obtain rfl : j = i := by simpa using hj
  refine wpOp_of_seg hi (fun e a' w' hh => ⟨hh.1, ?_⟩) h ha
  have h2 := hh.2
  by_cases hz : j < z
  · rw [if_pos hz] at h2 ⊢
    exact ⟨h2.1, wpAnyG_mono (fun w'' h3 => h2.1.trans h3) _ _ _ _ h2.2⟩
  · rw [if_neg hz] at h2 ⊢; exact h2
/-- Back in the region, behind an operation that wrote that block alone. -/
theorem SegB.back {i : Nat} {w' : World} (hz : Nat.blt i z = true) (hE : Wr b w w') (h : SegB P n ops Q b z fuel listed fr w') : Seg P n ops (BPost P ops Q b z fuel listed i w) [] fr w' :=
  Seg.nil (.mk fun a ha => ⟨rfl, by rw [if_pos (show i < z from Nat.le_of_ble_eq_true hz)]; exact ⟨hE, h.out a ha⟩⟩)
/-- .. behind the first one of the end. -/
theorem SegB.end_ {i : Nat} {w' : World} (hz : Nat.ble z i = true) (h : SegA P n ops Q fuel listed fr w') : Seg P n ops (BPost P ops Q b z fuel listed i w) [] fr w' :=
  Seg.nil (.mk fun a ha => ⟨rfl, by rw [if_neg (show ¬ i < z from Nat.not_lt.2 (Nat.le_of_ble_eq_true hz))]; exact h.out a ha⟩)
theorem SegB.done (hr : Region.ready .any ops listed = []) (h : At n Q .normal fr w) : SegB P n ops Q b z fuel listed fr w := .mk fun a ha => by
  cases fuel with
  | zero => exact ⟨hr, h.out a ha⟩
  | succ f => exact ⟨fun _ => h.out a ha, by rw [hr]; simp⟩
end
end Go.Proofs.YtahpiaaffeiadaaGreat
namespace Go.Proofs.YtahpiaaffeiadaaGreat
open Go Go.RowKit
variable {P : Program} {n : Fm} {ops : Array Oper} {Q : Exit → Act → World → Prop} {z fuel : Nat} {listed : Array Bool} {fr : Fr} {w : World}
theorem SegG.twoSeg (i j : Nat) {o o' : Oper} (hi : ops[i]? = some o) (hj : ops[j]? = some o') (hr : Region.ready .any ops listed = [i, j])
    (h : Seg P n ops (GPost P ops Q z fuel (listed.setIfInBounds i true) i w) [o] fr w) (h' : Seg P n ops (GPost P ops Q z fuel (listed.setIfInBounds j true) j w) [o'] fr w) : SegG P n ops Q z (fuel + 1) listed fr w := .mk fun a ha => by
  have one : ∀ (i : Nat) (o : Oper), ops[i]? = some o → Seg P n ops (GPost P ops Q z fuel (listed.setIfInBounds i true) i w) [o] fr w →
      wpOp P ops (NoPanic Q) i (fun a' w' => if i < z then Ext w w' ∧ wpAnyG P .any ops (NoPanic Q) (Ext w) z fuel (listed.setIfInBounds i true) a' w' else wpAny P .any ops (NoPanic Q) fuel (listed.setIfInBounds i true) a' w') a w := fun i o hi h => by
    refine wpOp_of_seg hi (fun e a' w' hh => ⟨hh.1, ?_⟩) h ha
    have h2 := hh.2
    by_cases hz : i < z
    · rw [if_pos hz] at h2 ⊢
      exact ⟨h2.1, wpAnyG_mono (fun w'' h3 => h2.1.trans h3) _ _ _ _ h2.2⟩
    · rw [if_neg hz] at h2 ⊢; exact h2
  refine ⟨fun h0 => (by rw [h0] at hr; cases hr), fun k hk => ?_⟩
  rw [hr] at hk
  rcases (by simpa using hk : k = i ∨ k = j) with rfl | rfl
  · exact one _ _ hi h
  · exact one _ _ hj h'
end Go.Proofs.YtahpiaaffeiadaaGreat
namespace Go.Proofs.YtahpiaaffeiadaaGreat
open Go Go.RowKit
section
variable {P : Program} [Tys P] {n : Fm} {ops : Array Oper} {Q : Exit → Act → World → Prop} {fr : Fr} {w : World} {T : TypeId}
theorem run_appAt {U e s by' base m m' : Nat} {z v u : Value} {xs news : List Value} (hU : slOf P U = some (e, s + 1)) (hz : zerOf P e = some z) (hzs : Nat.beq z.cells.size (s + 1) = true) (hby : byOf P e = some by') (hsz : szOf P e = some (s + 1))
    (hown : w.ownsRow base e (s + 1) v m xs) (hs : Sl w (s + 1) u m' news) (h1 : ∀ c ∈ news, c.oneCell' = true) (hbase : base ≤ w.heap.size) (hb1 : m + m' ≤ maxLen) (hb2 : (m + m') * by' ≤ 140737488355328) :
    ∃ v' w', (Builtin.append_ #[U, U] T #[v, u]).run P w = .ok v' w' ∧ w'.ownsRow base e (s + 1) v' (m + m') (xs ++ news) ∧ w.grownBy w' v.ownBlock ∧ (v'.ownBlock = v.ownBlock ∨ v'.ownBlock = some w.heap.size) := by
  obtain ⟨hund, hsize⟩ := und_sl hU
  obtain ⟨i, hi, hib, his⟩ := run_inf hby hsz
  have hinfo := info_of_run hi
  have hzz : i.zero = some z := by
    have := run_zero hz w
    unfold zeroValue at this
    rw [Sem.run_bind, hi] at this
    simp only [Result.andThen_ok] at this
    cases hiz : i.zero with
    | none => rw [hiz] at this; simp at this
    | some z' => rw [hiz] at this; simp at this; rw [this]
  have hzs := Nat.eq_of_beq_eq_true hzs
  obtain ⟨ao, c, rfl, hl, hr, hn⟩ := hs
  cases ao with
  | none =>
    have hm' := hn rfl
    subst hm'
    have hnil : news = [] := List.eq_nil_of_length_eq_zero (by simpa using hl)
    subst hnil
    have hrun : (Builtin.append_ #[U, U] T #[v, .slice none 0 c]).run P w = .ok v w := by
      rcases hown.2 with ⟨rfl, rfl⟩ | ⟨g, cap, cur, rfl, hbg, hg, hnc, hcm, hcs, htake⟩
      · simp [Builtin.append_, run_underlying hund, sizeOf, hi, Builtin.lenOf, Builtin.firstCells]
      · simp [Builtin.append_, run_underlying hund, sizeOf, hi, Builtin.lenOf, Builtin.firstCells, hnc, storeCells]
    exact ⟨v, w, hrun, by simpa using hown, ⟨rfl, rfl, rfl, Nat.le_refl _, fun _ _ _ => rfl⟩, .inl rfl⟩
  | some a =>
    obtain ⟨v', w', h2, h3, h4, _, h5⟩ := run_append_own_at w base U T e i z (s + 1) by' hund hinfo hzz his hib hzs (by omega) v m xs hown a m' c news hl (hr a rfl) h1 hb1 hb2 hbase
    exact ⟨v', w', h2, h3, h4, h5⟩
/-- 'append(v, u...)', v one's own; where the new one lies. -/
theorem Seg.appendAt {d U e s by' base m m' : Nat} {x y : Operand} {pos : String} {aft : Array Edge} {g : Option (Nat × Bool)} {rest : List Oper} {z v u : Value} {xs news : List Value}
    (hg : gd ops fr g = some true) (hd : Nat.blt d n.n = true) (hU : slOf P U = some (e, s + 1)) (hz : zerOf P e = some z) (hzs : Nat.beq z.cells.size (s + 1) = true) (hby : byOf P e = some by') (hsz : szOf P e = some (s + 1))
    (hx : Fr.ev fr x = some v) (hy : Fr.ev fr y = some u) (hown : w.ownsRow base e (s + 1) v m xs) (hs : Sl w (s + 1) u m' news) (h1 : ∀ c ∈ news, c.oneCell' = true) (hbase : base ≤ w.heap.size) (hb : m + m' ≤ 100000000) (hb' : Nat.ble by' 1000000 = true)
    (k : ∀ v' w1, w1.ownsRow base e (s + 1) v' (m + m') (xs ++ news) → w.grownBy w1 v.ownBlock → (v'.ownBlock = v.ownBlock ∨ v'.ownBlock = some w.heap.size) → Seg P n ops Q rest ((d, v') :: fr) w1) :
    Seg P n ops Q (⟨some d, .call ⟨.builtin .append, #[x, y], #[U, U]⟩, T, pos, aft, g⟩ :: rest) fr w := by
  obtain ⟨v', w1, hrun, h2, h3, h4⟩ := run_appAt (T := T) hU hz hzs hby hsz hown hs h1 hbase (by unfold maxLen; omega) (by
    have h5 : (m + m') * by' ≤ 100000000 * 1000000 := Nat.mul_le_mul hb (Nat.le_of_ble_eq_true hb')
    omega)
  refine Seg.step hg hd (.val fun a ha d pos aft g => ?_) (k v' w1 h2 h3 h4)
  simp [execOp, resolve, invoke, builtin, ha.ev hx, ha.ev hy, hrun]
end
end Go.Proofs.YtahpiaaffeiadaaGreat
namespace Go.Proofs.YtahpiaaffeiadaaGreat
open Go Go.RowKit
/-- A block of these cells, whose frozen cell, if there is one, lies behind them. -/
def Bf (w : World) (b : Nat) (cs : List Value) : Prop := ∃ T lo hi, w.heap[b]? = some (.cells cs.toArray T (lo, hi)) ∧ cs.length ≤ lo
theorem Bf.row {w : World} {b : Nat} {cs : List Value} (h : Bf w b cs) : Row w ⟨b, 0, none⟩ cs := fun j v hj => by
  obtain ⟨T, lo, hi, hT, _⟩ := h
  have e : (Addr.add ⟨b, 0, none⟩ j) = ⟨b, j, none⟩ := by unfold Addr.add; split <;> simp_all
  rw [e]
  simp [World.cell?, hT, hj]
theorem Bf.lt {w : World} {b : Nat} {cs : List Value} (h : Bf w b cs) : b < w.heap.size := by
  obtain ⟨T, lo, hi, hT, _⟩ := h
  exact (Array.getElem?_eq_some_iff.1 hT).1
theorem Bf.ext {w w' : World} {b : Nat} {cs : List Value} (h : Bf w b cs) (k : Ext w w') : Bf w' b cs := by
  have := h.lt
  obtain ⟨T, lo, hi, hT, hl⟩ := h
  exact ⟨T, lo, hi, by rw [k.block _ this]; exact hT, hl⟩
theorem Bf.frozen {w : World} {b : Nat} {cs : List Value} (h : Bf w b cs) {j : Nat} (hj : j < cs.length) : w.frozen? ⟨b, j, none⟩ = false := by
  obtain ⟨T, lo, hi, hT, hl⟩ := h
  simp [World.frozen?, hT]
  omega
theorem heap_setCell_same' (w : World) (b k : Nat) (cs : Array Value) (T : TypeId) (f : Nat × Nat) (v : Value) (hT : w.heap[b]? = some (.cells cs T f)) : (w.setCell ⟨b, k, none⟩ v).heap[b]? = some (.cells (cs.setIfInBounds k v) T f) := by
  rw [setCell_eq_setRow w b k cs T f v hT]
  exact setRow_heap w b cs _ T _ hT
theorem Bf.set {w : World} {b : Nat} {cs : List Value} (h : Bf w b cs) (k : Nat) (v : Value) : Bf (w.setCell ⟨b, k, none⟩ v) b (cs.set k v) ∧ Wr b w (w.setCell ⟨b, k, none⟩ v) := by
  obtain ⟨T, lo, hi, hT, hl⟩ := h
  refine ⟨⟨T, lo, hi, by rw [heap_setCell_same' w b k cs.toArray T (lo, hi) v hT]; simp, by simpa using hl⟩, ⟨rfl, rfl, rfl, by simp, fun i _ hi => heap_setCell_other w _ i v (fun e => hi (by rw [e]))⟩⟩
section
variable {P : Program} [Tys P] {n : Fm} {ops : Array Oper} {Q : Exit → Act → World → Prop} {fr : Fr} {w : World} {T : TypeId}
theorem run_storeF {U : TypeId} {b k : Nat} {cs : List Value} {v : Value} (hU : szOf P U = some 1) (hv : v.oneCell' = true) (hB : Bf w b cs) (hk : k < cs.length) : (storeVar U (Addr.add ⟨b, 0, none⟩ k) v).run P w = .ok () (w.setCell ⟨b, k, none⟩ v) := by
  have hc : v.cells = #[v] := by cases v <;> first | rfl | cases hv
  have hcell := hB.row k cs[k] (by simp [hk])
  rw [addr_lit] at hcell ⊢
  have hf := hB.frozen hk
  unfold storeVar
  rw [Sem.run_bind, run_size hU]
  simp only [Result.andThen_ok, hc]
  simp only [List.size_toArray, List.length_cons, List.length_nil, Nat.zero_add, ne_eq, not_true_eq_false, if_false]
  simp [storeCells, Addr.add0, run_store P w _ v _ hv, hcell, hf]
theorem Seg.storeF {U : TypeId} {x y : Operand} {T : TypeId} {pos : String} {aft : Array Edge} {g : Option (Nat × Bool)} {rest : List Oper} {b k : Nat} {cs : List Value} {v : Value}
    (hg : gd ops fr g = some true) (hU : szOf P U = some 1) (hx : Fr.ev fr x = some (.pointer (some (Addr.add ⟨b, 0, none⟩ k)))) (hy : Fr.ev fr y = some v) (hv : v.oneCell' = true) (hB : Bf w b cs) (hk : k < cs.length)
    (kk : ∀ w1, Wr b w w1 → Bf w1 b (cs.set k v) → Seg P n ops Q rest fr w1) : Seg P n ops Q (⟨none, .store U x y, T, pos, aft, g⟩ :: rest) fr w :=
  Seg.step0 (w' := w.setCell ⟨b, k, none⟩ v) hg (.mk fun a ha d pos aft g => by
    simp [execOp, Instr.storeAt, Instr.sureAddr, ha.ev hx, ha.ev hy, run_storeF hU hv hB hk]) (kk _ (hB.set k v).2 (hB.set k v).1)
/-- '[]byte(s)'. -/
theorem Seg.stb {d : Nat} {U U' e k : Nat} {x : Operand} {pos : String} {aft : Array Edge} {g : Option (Nat × Bool)} {rest : List Oper} {l : List UInt8}
    (hg : gd ops fr g = some true) (hd : Nat.blt d n.n = true) (hS : strOf P U = some true) (hD : slOf P U' = some (e, k)) (he : kindOf P e = some .u8) (hx : Fr.ev fr x = some (.string ⟨l.toArray⟩))
    (kk : ∀ w1 b zs c, Ext w w1 → Bf w1 b (bytesV l ++ zs) → w.heap.size ≤ b → Seg P n ops Q rest ((d, .slice (some ⟨b, 0, none⟩) l.length c) :: fr) w1) :
    Seg P n ops Q (⟨some d, .convert U U' x, T, pos, aft, g⟩ :: rest) fr w := by
  have hrun := Lib.run_convert_string_bytes (P := P) w U U' e ⟨l.toArray⟩ (und_str hS) (und_sl hD).1 (und_kind he)
  refine Seg.step hg hd (w' := Lib.bytesWorld w e ⟨l.toArray⟩) (.val fun a ha d pos aft g => ?_) (kk _ w.heap.size (List.replicate (grownCap w (ByteArray.mk l.toArray).size 0 e - (ByteArray.mk l.toArray).size) (.int .u8 0)) (grownCap w (ByteArray.mk l.toArray).size 0 e) ?_ ?_ (Nat.le_refl _))
  · simp only [execOp, ha.ev hx]
    rw [Sem.run_bind, hrun]
    rfl
  · exact ⟨rfl, rfl, rfl, by rw [Lib.bytesWorld_size]; omega, fun j hj => Lib.bytesWorld_at_old w e _ j hj⟩
  · have hc : Lib.bytesCells w e ⟨l.toArray⟩ = (bytesV l ++ List.replicate (grownCap w (ByteArray.mk l.toArray).size 0 e - (ByteArray.mk l.toArray).size) (Value.int .u8 0)).toArray := by
      apply Array.ext'
      simp [Lib.bytesCells, bytesV]
    have hn := Lib.bytesWorld_at_new w e ⟨l.toArray⟩
    rw [hc] at hn
    exact ⟨e, _, _, hn, by simp⟩
end
theorem Bf.sl {w : World} {b m : Nat} {cs zs : List Value} (h : Bf w b (cs ++ zs)) (hl : cs.length = m) (c : Nat) : Sl w 1 (.slice (some ⟨b, 0, none⟩) m c) m cs :=
  ⟨_, c, rfl, by omega, fun a ha => (by
    cases ha
    have := h.row.take cs.length
    rwa [List.take_left] at this), fun h => by cases h⟩
end Go.Proofs.YtahpiaaffeiadaaGreat
namespace Go.Proofs.YtahpiaaffeiadaaGreat
open Go Go.RowKit
theorem run_storeCells_mid {P : Program} (g k : Nat) (t : TypeId) : ∀ (vs : List Value) (i : Nat) (cur : Array Value) (w : World), w.heap[g]? = some (.cells cur t (0, 0)) → k + i + vs.length ≤ cur.size → (∀ v ∈ vs, v.oneCell' = true) →
    (storeCells ⟨g, k, none⟩ vs i).run P w = .ok () (w.setRow g (cur.toList.take (k + i) ++ (vs ++ cur.toList.drop (k + i + vs.length))).toArray)
  | [], i, cur, w, hg, hl, _ => by
    have hlt : g < w.heap.size := (Array.getElem?_eq_some_iff.1 hg).1
    have hv : w.heap[g] = .cells cur t (0, 0) := (Array.getElem?_eq_some_iff.1 hg).2
    simp only [storeCells, List.nil_append, List.length_nil, Nat.add_zero, List.take_append_drop, Array.toArray_toList]
    show Result.ok () w = _
    congr 1
    unfold World.setRow
    cases w with
    | mk heap tape drawn os output =>
      congr 1
      apply Array.ext
      · simp
      · intro k h1 h2
        simp only [Array.getElem_modify]
        split
        · rename_i hk; subst hk; simp at hv; simp [hv]
        · rfl
  | v :: rest, i, cur, w, hg, hl, h1 => by
    have hi : k + i < cur.size := by simp at hl; omega
    have hadd : (⟨g, k, none⟩ : Addr).add i = ⟨g, k + i, none⟩ := by unfold Addr.add; split <;> simp_all
    have hcell : w.cell? ⟨g, k + i, none⟩ = some cur[k + i] := by simp [World.cell?, hg, hi]
    have hfro : w.frozen? ⟨g, k + i, none⟩ = false := by simp [World.frozen?, hg]
    have hst : (store ((⟨g, k, none⟩ : Addr).add i) v).run P w = .ok () (w.setRow g (cur.setIfInBounds (k + i) v)) := by
      rw [hadd, run_store P w _ v _ (h1 v (by simp)), hcell]
      simp [hfro, setCell_eq_setRow w g (k + i) cur t (0, 0) v hg]
    have ih := run_storeCells_mid (P := P) g k t rest (i + 1) (cur.setIfInBounds (k + i) v) (w.setRow g (cur.setIfInBounds (k + i) v)) (setRow_heap w g cur _ t _ hg) (by simp at hl ⊢; omega) (fun x hx => h1 x (by simp [hx]))
    simp only [storeCells, Sem.run_bind, hst, Result.andThen_ok, ih, setRow_setRow]
    congr 3
    have hlen : k + i < cur.toList.length := by simpa using hi
    have e1 : (cur.setIfInBounds (k + i) v).toList = cur.toList.set (k + i) v := by simp
    rw [e1]
    have e2 : (cur.toList.set (k + i) v).take (k + (i + 1)) = cur.toList.take (k + i) ++ [v] := by
      rw [show k + (i + 1) = (k + i) + 1 by omega, List.take_set, List.take_succ_eq_append_getElem hlen]
      rw [List.set_append_right _ _ (by rw [List.length_take]; omega), List.length_take, show k + i - min (k + i) cur.toList.length = 0 by omega]
      rfl
    have e3 : (cur.toList.set (k + i) v).drop (k + (i + 1) + rest.length) = cur.toList.drop (k + i + (v :: rest).length) := by
      rw [List.drop_set_of_lt (by omega)]
      congr 1
      simp only [List.length_cons]; omega
    rw [e2, e3]
    simp
section
variable {P : Program} [Tys P] {n : Fm} {ops : Array Oper} {Q : Exit → Act → World → Prop} {fr : Fr} {w : World} {T : TypeId}
/-- A struct stored into a block of one's own, at place k. -/
theorem Seg.storeMid {U : TypeId} {x y : Operand} {pos : String} {aft : Array Edge} {g : Option (Nat × Bool)} {rest : List Oper} {b k : Nat} {cs : List Value} {a : Array Value}
    (hg : gd ops fr g = some true) (hU : szOf P U = some a.toList.length) (hx : Fr.ev fr x = some (.pointer (some (Addr.add ⟨b, 0, none⟩ k)))) (hy : Fr.ev fr y = some (.agg a)) (hB : Bx w b cs) (hl : k + a.toList.length ≤ cs.length)
    (hv : ∀ c ∈ a.toList, c.oneCell' = true)
    (kk : ∀ w1, Wr b w w1 → Bx w1 b (cs.take k ++ (a.toList ++ cs.drop (k + a.toList.length))) → Seg P n ops Q rest fr w1) : Seg P n ops Q (⟨none, .store U x y, T, pos, aft, g⟩ :: rest) fr w := by
  obtain ⟨h1, h2⟩ := hB.setRow (cs.take k ++ (a.toList ++ cs.drop (k + a.toList.length)))
  obtain ⟨TT, hT⟩ := hB
  have hrun : (storeVar U (Addr.add ⟨b, 0, none⟩ k) (.agg a)).run P w = .ok () (w.setRow b (cs.take k ++ (a.toList ++ cs.drop (k + a.toList.length))).toArray) := by
    have := run_storeCells_mid (P := P) b k TT a.toList 0 cs.toArray w hT (by simp only [List.size_toArray]; omega) hv
    rw [addr_lit]
    unfold storeVar
    rw [Sem.run_bind, run_size hU]
    simp only [Result.andThen_ok, Value.cells]
    simpa using this
  exact Seg.step0 (w' := w.setRow b (cs.take k ++ (a.toList ++ cs.drop (k + a.toList.length))).toArray) hg (.mk fun a' ha d pos aft g => by
    simp [execOp, Instr.storeAt, Instr.sureAddr, ha.ev hx, ha.ev hy, hrun]) (kk _ h2 h1)
end
section
variable {P : Program} {n : Fm} {ops : Array Oper} {Q : Exit → Act → World → Prop} {z fuel : Nat} {listed : Array Bool} {fr : Fr} {w : World}
theorem Cd.anyE {id : Nat} {l : List Oper} (hm : P.follows .mixedOrders = true) (h : ∀ w1, Ext w w1 → SegA P n l.toArray Q l.length (Array.replicate l.length false) fr w1) : Cd P n Q (.region id l.toArray true) fr w :=
  Cd.any hm (h _ (Ext.drew w))
/-- From here on what reads is taken first. -/
theorem SegA.held (z : Nat) (h : SegG P n ops Q z fuel listed fr w) : SegA P n ops Q fuel listed fr w := .mk fun a ha => wpAny_of_G _ _ _ _ (h.out a ha)
theorem SegA.gsplit (i : Nat) {d : Option Nat} {op : Op} {T : TypeId} {pos : String} {aft : Array Edge} {j : Nat} {b : Bool} {k : Nat} {t : Bool} (_hi : ops[i]? = some ⟨d, op, T, pos, aft, some (j, b)⟩) (_hj : gdst ops j = some k) (hk : Fr.look fr k = some (.bool t))
    (ht : t = true → SegA P n ops Q fuel listed ((k, .bool true) :: fr) w) (hf : t = false → SegA P n ops Q fuel listed ((k, .bool false) :: fr) w) : SegA P n ops Q fuel listed fr w := .mk fun a ha => by
  cases t
  · exact (hf rfl).out a (ha.again hk)
  · exact (ht rfl).out a (ha.again hk)
theorem SegA.gsplitp (i : Nat) {d : Option Nat} {op : Op} {T : TypeId} {pos : String} {aft : Array Edge} {j : Nat} {b : Bool} {k : Nat} {p : Prop} [Decidable p] (hi : ops[i]? = some ⟨d, op, T, pos, aft, some (j, b)⟩) (hj : gdst ops j = some k) (hk : Fr.look fr k = some (.bool (decide p)))
    (ht : p → SegA P n ops Q fuel listed ((k, .bool true) :: fr) w) (hf : ¬ p → SegA P n ops Q fuel listed ((k, .bool false) :: fr) w) : SegA P n ops Q fuel listed fr w :=
  SegA.gsplit i hi hj hk (fun h => ht (of_decide_eq_true h)) (fun h => hf (of_decide_eq_false h))
end
/-! ### Rows of structs -/
section
variable {E : Type} {cel : E → List Value} {K : Nat}
theorem flat_len (hK : ∀ x, (cel x).length = K) : ∀ xs : List E, (xs.flatMap cel).length = xs.length * K
  | [] => by simp
  | x :: xs => by rw [List.flatMap_cons, List.length_append, hK, flat_len hK xs, List.length_cons, Nat.succ_mul]; omega
theorem flat_take (hK : ∀ x, (cel x).length = K) (xs : List E) (i : Nat) : (xs.take i).flatMap cel = (xs.flatMap cel).take (i * K) := by
  rcases Nat.lt_or_ge i xs.length with h | h
  · conv => rhs; rw [← List.take_append_drop i xs, List.flatMap_append]
    rw [List.take_left' (by rw [flat_len hK, List.length_take]; congr 1; omega)]
  · rw [List.take_of_length_le h, List.take_of_length_le (by rw [flat_len hK]; exact Nat.mul_le_mul_right _ h)]
theorem flat_drop (hK : ∀ x, (cel x).length = K) (xs : List E) (i : Nat) : (xs.drop i).flatMap cel = (xs.flatMap cel).drop (i * K) := by
  rcases Nat.lt_or_ge i xs.length with h | h
  · conv => rhs; rw [← List.take_append_drop i xs, List.flatMap_append]
    rw [List.drop_left' (by rw [flat_len hK, List.length_take]; congr 1; omega)]
  · rw [List.drop_of_length_le h, List.drop_of_length_le (by rw [flat_len hK]; exact Nat.mul_le_mul_right _ h)]; rfl
theorem flat_row (hK : ∀ x, (cel x).length = K) {w : World} {a : Addr} {xs : List E} {zs : List Value} (h : Row w a (xs.flatMap cel ++ zs)) {i : Nat} {x : E} (hx : xs[i]? = some x) : Row w (a.add (i * K)) (cel x) := by
  have h1 := h.part (i * K) K
  obtain ⟨hi, he⟩ := List.getElem?_eq_some_iff.1 hx
  have h2 : ((xs.flatMap cel ++ zs).drop (i * K)).take K = cel x := by
    rw [List.drop_append_of_le_length (by rw [flat_len hK]; exact Nat.mul_le_mul_right _ (Nat.le_of_lt hi)), ← flat_drop hK, List.drop_eq_getElem_cons hi, List.flatMap_cons, he, List.append_assoc, List.take_left' (hK x)]
  rw [h2] at h1
  exact h1
theorem flat_set (hK : ∀ x, (cel x).length = K) {xs : List E} {zs : List Value} {i : Nat} {y : E} (hi : i < xs.length) :
    (xs.flatMap cel ++ zs).take (i * K) ++ (cel y ++ (xs.flatMap cel ++ zs).drop (i * K + (cel y).length)) = (xs.set i y).flatMap cel ++ zs := by
  have hl := flat_len hK xs
  have h1 : i * K ≤ (xs.flatMap cel).length := by rw [hl]; exact Nat.mul_le_mul_right _ (Nat.le_of_lt hi)
  have h2 : i * K + K ≤ (xs.flatMap cel).length := by rw [hl, ← Nat.succ_mul]; exact Nat.mul_le_mul_right _ hi
  rw [hK, List.take_append_of_le_length h1, List.drop_append_of_le_length h2, ← flat_take hK, show i * K + K = (i + 1) * K by rw [Nat.succ_mul], ← flat_drop hK]
  rw [List.set_eq_take_append_cons_drop, if_pos hi, List.flatMap_append, List.flatMap_cons]
  simp
end
end Go.Proofs.YtahpiaaffeiadaaGreat
namespace Go.Proofs.YtahpiaaffeiadaaGreat
open Go Go.RowKit
theorem info_all {P : Program} [Tys P] {T b s : Nat} {z : Value} (hb : byOf P T = some b) (hs : szOf P T = some s) (hz : zerOf P T = some z) : ∃ i, P.info? T = some i ∧ i.bytes = b ∧ i.size = s ∧ i.zero = some z := by
  unfold byOf at hb
  unfold szOf at hs
  unfold zerOf at hz
  split at hb
  · rename_i r hr
    obtain ⟨d, i, ho⟩ := row_of hr
    cases hb
    rw [hr] at hs hz
    cases hs
    cases hz
    exact ⟨i, info_of_run ho.inf, ho.bytes, ho.size, ho.zero⟩
  · cases hb
theorem Seg.makeN {P : Program} [Tys P] {n : Fm} {ops : Array Oper} {Q : Exit → Act → World → Prop} {fr : Fr} {w : World} {T : TypeId} {d : Nat} {U e s by' m : Nat} {x y : Operand} {k1 k2 : IntKind} {pos : String} {aft : Array Edge} {g : Option (Nat × Bool)} {rest : List Oper} {z : Value}
    (hg : gd ops fr g = some true) (hd : Nat.blt d n.n = true) (hf : slOf P U = some (e, s + 1)) (hz : zerOf P e = some z) (hzs : Nat.beq z.cells.size (s + 1) = true) (hby : byOf P e = some by') (hsz : szOf P e = some (s + 1))
    (hx : Fr.ev fr x = some (.int k1 (m : Nat))) (hy : Fr.ev fr y = some (.int k2 (m : Nat))) (hm : m ≤ 1000000 ∧ by' ≤ 1000000)
    (k : ∀ w1 b, Ext w w1 → Bx w1 b (reps m (zcells z)) → w.heap.size ≤ b → Seg P n ops Q rest ((d, .slice (some ⟨b, 0, none⟩) m m) :: fr) w1) :
    Seg P n ops Q (⟨some d, .makeSlice U x y, T, pos, aft, g⟩ :: rest) fr w := by
  obtain ⟨i, h1, h2, h3, h4⟩ := info_all hby hsz hz
  have hzs := Nat.eq_of_beq_eq_true hzs
  refine Seg.step (v := .slice (some ⟨w.heap.size, 0, none⟩) m m) (w' := w.alloc (.cells (reps m (zcells z)).toArray e)) hg hd (.val fun a ha d pos aft g => ?_) (k _ _ (Ext.alloc _ _) (Bx.new _ _ _) (Nat.le_refl _))
  have hb : (i.bytes : Int) * (m : Int) ≤ 281474976710656 := by
    have h5 : i.bytes * m ≤ 1000000 * 1000000 := Nat.mul_le_mul (by omega) hm.1
    have h6 : ((i.bytes * m : Nat) : Int) ≤ 281474976710656 := by omega
    rwa [Int.natCast_mul] at h6
  have h := run_make w U e i z (und_sl hf).1 h1 h4 k1 k2 m m (by omega) (Int.le_refl _) hb (by omega)
  have h7 := reps_made m z.cells (by omega)
  rw [hzs] at h7
  rw [Int.toNat_natCast, h3, madeCells, hzs, h7] at h
  simp only [execOp, ha.ev hx, ha.ev hy]
  rw [Sem.run_bind, h]
  rfl
theorem reps_flat {E : Type} {f : E → List Value} {z : List Value} (e : E) (h : z = f e) : ∀ m, reps m z = (List.replicate m e).flatMap f
  | 0 => rfl
  | m + 1 => by rw [reps, List.replicate_succ, List.flatMap_cons, reps_flat e h m, h]
theorem Bx.reps {E : Type} {f : E → List Value} {z : List Value} {w : World} {b m : Nat} (e : E) (h : z = f e) (hB : Bx w b (reps m z)) : Bx w b ((List.replicate m e).flatMap f) := by
  rw [← reps_flat e h]; exact hB
end Go.Proofs.YtahpiaaffeiadaaGreat
