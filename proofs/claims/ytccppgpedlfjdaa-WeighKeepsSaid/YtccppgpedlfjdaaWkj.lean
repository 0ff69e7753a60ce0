/- Rules: slices that are built of whole elements, in their order. -/
import Derived.Test.YtccppgpedlfjdaaWki
namespace Go.Proofs.Ytccppgpedlfjdaa
open Go Go.RowKit
/-- A fact that the walker leaves as it is. -/
def Keep (p : Prop) : Prop := p
theorem putAt_mid : ∀ (r pre old tl : List Value), old.length = r.length → putAt (pre ++ (old ++ tl)) pre.length r = pre ++ (r ++ tl)
  | [], pre, old, tl, h => by rw [List.eq_nil_of_length_eq_zero h]; rfl
  | v :: r, pre, [], tl, h => by simp at h
  | v :: r, pre, o :: old, tl, h => by
    have := putAt_mid r (pre ++ [v]) old tl (by simpa using h)
    rw [putAt]
    simpa using this
/-- Members with their numbers. -/
def enumV : Nat → List Value → List (Nat × Value)
  | _, [] => []
  | k, v :: r => (k, v) :: enumV (k + 1) r
theorem fill_all (s m : Nat) : ∀ (vs : List Value) (k : Nat) (pre old : List Value), k + vs.length ≤ m → pre.length = k * s → old.length = vs.length * s → (∀ v ∈ vs, v.cells.size = s) →
    fillL (arPlaces m s 0) (pre ++ old) (enumV k vs) = some (pre ++ vs.flatMap zcells)
  | [], k, pre, old, _, _, ho, _ => by
    have : old = [] := List.eq_nil_of_length_eq_zero (by simpa using ho)
    subst this
    rfl
  | v :: vs, k, pre, old, hk, hp, ho, hs => by
    have hk' : k < m := by simp at hk; omega
    have hv := hs v (by simp)
    have ho' : old.length = s + vs.length * s := by rw [ho, List.length_cons, Nat.succ_mul]; omega
    rw [enumV, fillL, arPlaces_get m s 0 k hk']
    have h1 : Nat.beq v.cells.size s = true := by rw [hv]; exact Nat.beq_refl s
    have h2 : Nat.ble (0 + k * s + v.cells.size) (pre ++ old).length = true := by
      refine Nat.ble_eq_true_of_le ?_
      rw [List.length_append, hp, ho', hv]; omega
    simp only [h1, h2]
    have h3 : pre ++ old = pre ++ (old.take s ++ old.drop s) := by rw [List.take_append_drop]
    have hlv : (old.take s).length = v.cells.toList.length := by
      have : v.cells.toList.length = s := by simpa using hv
      rw [this, List.length_take]; omega
    have h4 : putAt (pre ++ old) (0 + k * s) v.cells.toList = (pre ++ v.cells.toList) ++ old.drop s := by
      rw [h3, Nat.zero_add, ← hp, putAt_mid _ _ _ _ hlv, List.append_assoc]
    rw [h4, fill_all s m vs (k + 1) (pre ++ v.cells.toList) (old.drop s) (by simp at hk; omega) (by rw [List.length_append, hp, Array.length_toList, hv, Nat.succ_mul]) (by rw [List.length_drop, ho']; omega) (fun u hu => hs u (by simp [hu]))]
    simp [zcells]
def sizesB (s : Nat) : List Value → Bool
  | [] => true
  | v :: r => match Nat.beq v.cells.size s with
    | true => sizesB s r
    | false => false
theorem sizesB_mem {s : Nat} : ∀ {vs : List Value}, sizesB s vs = true → ∀ v ∈ vs, v.cells.size = s
  | v :: r, h, u, hu => by
    unfold sizesB at h
    split at h
    · rename_i h1
      rcases List.mem_cons.1 hu with rfl | hu
      · exact Nat.eq_of_beq_eq_true h1
      · exact sizesB_mem h u hu
    · cases h
def snds : List (Nat × Operand) → List Operand
  | [] => []
  | (_, x) :: r => x :: snds r
def idxB : Nat → List (Nat × Operand) → Bool
  | _, [] => true
  | k, (i, _) :: r => match Nat.beq i k with
    | true => idxB (k + 1) r
    | false => false
theorem parts_enum {fr : Fr} : ∀ {xs : List (Nat × Operand)} {k : Nat} {vs : List Value}, idxB k xs = true → Fr.evs fr (snds xs) = some vs → Fr.parts fr xs = some (enumV k vs)
  | [], k, vs, _, h => by cases h; rfl
  | (i, x) :: r, k, vs, hi, h => by
    unfold idxB at hi
    split at hi
    · rename_i h1
      rw [snds, Fr.evs] at h
      split at h
      · rename_i v vs' h2 h3
        cases h
        rw [Fr.parts, h2, parts_enum hi h3, Nat.eq_of_beq_eq_true h1]
        rfl
      · cases h
    · cases hi
section
variable {P : Program} [Tys P] {n : Nat} {ops : Array Oper} {Q : Exit → Act → World → Prop} {fr : Fr} {w : World} {T : TypeId}
theorem Seg.buildSliceV {d : Nat} {U len e s : Nat} {xs : List (Nat × Operand)} {pos : String} {aft : Array Edge} {g : Option (Nat × Bool)} {rest : List Oper} {z : Value} {vs : List Value}
    (hg : gd ops fr g = some true) (hd : Nat.blt d n = true) (hf : slOf P U = some (e, s + 1)) (hz : zerOf P e = some z) (hzs : Nat.beq z.cells.size (s + 1) = true) (hlen : Nat.ble (len * (s + 1)) 16777216 = true) (hi : idxB 0 xs = true) (hx : Fr.evs fr (snds xs) = some vs)
    (hvl : Nat.beq vs.length len = true) (hvs : sizesB (s + 1) vs = true)
    (k : ∀ w1 b, Ext w w1 → Bx w1 b (vs.flatMap zcells) → w.heap.size ≤ b → w1.ownsRow w.heap.size e (s + 1) (.slice (some ⟨b, 0, none⟩) len len) len (vs.flatMap zcells) → Seg P n ops Q rest ((d, .slice (some ⟨b, 0, none⟩) len len) :: fr) w1) :
    Seg P n ops Q (⟨some d, .buildSlice U len xs.toArray, T, pos, aft, g⟩ :: rest) fr w :=
  Seg.buildSlice hg hd hf hz hzs hlen (parts_enum hi hx) (by
    have hl := Nat.eq_of_beq_eq_true hvl
    subst hl
    have := fill_all (s + 1) vs.length vs 0 [] (reps vs.length (zcells z)) (by omega) (by simp) (by rw [reps_length, show (zcells z).length = s + 1 from by simpa [zcells] using Nat.eq_of_beq_eq_true hzs]) (sizesB_mem hvs)
    simpa using this) k
omit [Tys P] in
theorem one_cells {v : Value} (h : v.oneCell' = true) : v.cells = #[v] := by cases v <;> first | rfl | cases h
theorem flat_one : ∀ {vs : List Value}, (∀ v ∈ vs, v.oneCell' = true) → vs.flatMap zcells = vs
  | [], _ => rfl
  | v :: vs, h => by
    rw [List.flatMap_cons, flat_one (fun u hu => h u (by simp [hu])), zcells, one_cells (h v (by simp))]
    rfl
theorem sizesB_one : ∀ {vs : List Value}, (∀ v ∈ vs, v.oneCell' = true) → sizesB 1 vs = true
  | [], _ => rfl
  | v :: vs, h => by
    have h1 : v.cells.size = 1 := by rw [one_cells (h v (by simp))]; rfl
    rw [sizesB, h1]
    exact sizesB_one (fun u hu => h u (by simp [hu]))
/-- A slice built of elements of one cell each. -/
theorem Seg.buildSliceO {d : Nat} {U len e : Nat} {xs : List (Nat × Operand)} {pos : String} {aft : Array Edge} {g : Option (Nat × Bool)} {rest : List Oper} {z : Value} {vs : List Value}
    (hg : gd ops fr g = some true) (hd : Nat.blt d n = true) (hf : slOf P U = some (e, 0 + 1)) (hz : zerOf P e = some z) (hzs : Nat.beq z.cells.size (0 + 1) = true) (hlen : Nat.ble (len * (0 + 1)) 16777216 = true) (hi : idxB 0 xs = true) (hx : Fr.evs fr (snds xs) = some vs)
    (hvl : Nat.beq vs.length len = true) (hvs : ∀ v ∈ vs, v.oneCell' = true)
    (k : ∀ w1 b, Ext w w1 → Bx w1 b vs → w.heap.size ≤ b → w1.ownsRow w.heap.size e (0 + 1) (.slice (some ⟨b, 0, none⟩) len len) len vs → Seg P n ops Q rest ((d, .slice (some ⟨b, 0, none⟩) len len) :: fr) w1) :
    Seg P n ops Q (⟨some d, .buildSlice U len xs.toArray, T, pos, aft, g⟩ :: rest) fr w :=
  Seg.buildSliceV hg hd hf hz hzs hlen hi hx hvl (sizesB_one hvs) (by rw [flat_one hvs]; exact k)
end
/-- A part put in its place, quickly told. -/
def fillT (N : Nat) (fl : List (Nat × Nat)) : List Value → List (Nat × Value) → Option (List Value)
  | cs, [] => some cs
  | cs, (i, v) :: rest => match fl[i]? with
    | none => none
    | some (o, s) => match Nat.beq v.cells.size s, Nat.ble (o + s) N with
      | true, true => fillT N fl (cs.take o ++ (v.cells.toList ++ cs.drop (o + s))) rest
      | _, _ => none
theorem putAt_cut {cs r : List Value} {o : Nat} (h : o + r.length ≤ cs.length) : putAt cs o r = cs.take o ++ (r ++ cs.drop (o + r.length)) := by
  have h1 : cs = cs.take o ++ ((cs.drop o).take r.length ++ (cs.drop o).drop r.length) := by
    rw [List.take_append_drop, List.take_append_drop]
  have h2 := putAt_mid r (cs.take o) ((cs.drop o).take r.length) ((cs.drop o).drop r.length) (by rw [List.length_take, List.length_drop]; omega)
  rw [← h1, List.length_take, show min o cs.length = o by omega] at h2
  rw [h2, List.drop_drop]
theorem fillT_L (N : Nat) (fl : List (Nat × Nat)) : ∀ (parts : List (Nat × Value)) (cs cs' : List Value), cs.length = N → fillT N fl cs parts = some cs' → fillL fl cs parts = some cs'
  | [], cs, cs', _, h => h
  | (i, v) :: rest, cs, cs', hN, h => by
    unfold fillT at h
    unfold fillL
    split at h
    · cases h
    · rename_i o s hf
      rw [hf]
      split at h
      · rename_i h1 h2
        have h1' := Nat.eq_of_beq_eq_true h1
        have h2' := Nat.le_of_ble_eq_true h2
        have hv : v.cells.toList.length = s := by simpa using h1'
        have h3 : Nat.ble (o + v.cells.size) cs.length = true := Nat.ble_eq_true_of_le (by omega)
        simp only [h1, h3]
        have h4 := putAt_cut (cs := cs) (r := v.cells.toList) (o := o) (by omega)
        rw [hv] at h4
        rw [h4]
        refine fillT_L N fl rest _ cs' ?_ h
        rw [List.length_append, List.length_append, List.length_take, List.length_drop, hv]
        omega
      · cases h
section
variable {P : Program} [Tys P] {n : Nat} {fr : Fr} {w : World} {T : TypeId}
theorem Yd.buildT {U : TypeId} {xs : List (Nat × Operand)} {p : Nat × Nat} {fl : List (Nat × Nat)} {z : Value} {parts : List (Nat × Value)} {cs : List Value} (N : Nat) (hf : fldsOf P U = some (p :: fl)) (hz : zerOf P U = some z) (hN : Nat.beq (zcells z).length N = true) (hx : Fr.parts fr xs = some parts)
    (hc : fillT N (p :: fl) (zcells z) parts = some cs) : Yd P n (.build U xs.toArray) T fr w (.agg cs.toArray) w :=
  .build hf hz hx (fillT_L N _ _ _ _ (Nat.eq_of_beq_eq_true hN) hc)
theorem Yd.buildArrT {U : TypeId} {xs : List (Nat × Operand)} {m e s : Nat} {z : Value} {parts : List (Nat × Value)} {cs : List Value} (N : Nat) (hf : arOf P U = some (m, e, s)) (hz : zerOf P U = some z) (hN : Nat.beq (zcells z).length N = true) (hx : Fr.parts fr xs = some parts)
    (hc : fillT N (arPlaces m s 0) (zcells z) parts = some cs) : Yd P n (.build U xs.toArray) T fr w (.agg cs.toArray) w :=
  .buildArr hf hz hx (fillT_L N _ _ _ _ (Nat.eq_of_beq_eq_true hN) hc)
/-- An element of an array that lies within something. -/
theorem Yd.indexArr1' {x y : Operand} {p : Addr} {len j : Nat} {U e : Nat} {q : IntKind} {i : Int} {k : Nat} (hU : arOf P U = some (len, e, 1)) (hx : Fr.ev fr x = some (.pointer (some (p.add j)))) (hy : Fr.ev fr y = some (.int q i)) (hk : NatOf i k) (h1 : k < len) :
    Yd P n (.indexAddr U x y) T fr w (.pointer (some (p.add (j + k)))) w := by
  rw [← Deep.add_add]; exact .indexArr1 hU hx hy hk h1
theorem Yd.indexArr' {x y : Operand} {p : Addr} {len j : Nat} {U e s : Nat} {q : IntKind} {i : Int} {k : Nat} (hU : arOf P U = some (len, e, s)) (hx : Fr.ev fr x = some (.pointer (some (p.add j)))) (hy : Fr.ev fr y = some (.int q i)) (hk : NatOf i k) (h1 : k < len) :
    Yd P n (.indexAddr U x y) T fr w (.pointer (some (p.add (j + k * s)))) w := by
  rw [← Deep.add_add]; exact .indexArr hU hx hy hk h1
end
end Go.Proofs.Ytccppgpedlfjdaa
