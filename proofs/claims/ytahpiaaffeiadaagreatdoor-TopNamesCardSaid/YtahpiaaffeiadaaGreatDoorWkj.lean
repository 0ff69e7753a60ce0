/- Rules: slices that are built of whole elements, in their order. Rules: structs and arrays compared. Rules: regions that draw their order, in which all reads come before one chain of operations that may write. Rules: regions that draw their order, in general: what reads is taken first where it may come up; what makes memory stands alone; a chain at the end may write. Rules: regions that draw their order, in which one block is written by calls, and the reads look elsewhere: the reads are taken first. Drawn regions in which one of two operations comes next. Append, with the place of the new slice told. Rules: a text's bytes, copied into a block of one's own. -/
import Derived.Test.YtahpiaaffeiadaaGreatDoorWki
import Derived.DeepKeys
import Derived.Laws.Slices
import Derived.StillTail
import Derived.OrdersHeld
import Derived.Maps.AppendAt
import Derived.Lib.ConvBytes
namespace Go.Proofs.YtahpiaaffeiadaaGreatDoor
open Go Go.RowKit
/-- A fact that the walker leaves as it is. -/
def Keep (p : Prop) : Prop := p
theorem putAt_mid : ∀ (r pre old tl : List Value), old.length = r.length → putAt (pre ++ (old ++ tl)) pre.length r = pre ++ (r ++ tl)
  | [], pre, old, tl, h => by rw [List.eq_nil_of_length_eq_zero h]; rfl
  | v :: r, pre, [], tl, h => by simp at h
  | v :: r, pre, o :: old, tl, h => by
    have := putAt_mid r (pre ++ [v]) old tl (by simpa using h)
    rw [putAt]
    simpa using this
/-- Members with their numbers. -/
def enumV : Nat → List Value → List (Nat × Value)
  | _, [] => []
  | k, v :: r => (k, v) :: enumV (k + 1) r
theorem fill_all (s m : Nat) : ∀ (vs : List Value) (k : Nat) (pre old : List Value), k + vs.length ≤ m → pre.length = k * s → old.length = vs.length * s → (∀ v ∈ vs, v.cells.size = s) →
    fillL (arPlaces m s 0) (pre ++ old) (enumV k vs) = some (pre ++ vs.flatMap zcells)
  | [], k, pre, old, _, _, ho, _ => by
    have : old = [] := List.eq_nil_of_length_eq_zero (by simpa using ho)
    subst this
    rfl
  | v :: vs, k, pre, old, hk, hp, ho, hs => by
    have hk' : k < m := by simp at hk; omega
    have hv := hs v (by simp)
    have ho' : old.length = s + vs.length * s := by rw [ho, List.length_cons, Nat.succ_mul]; omega
    rw [enumV, fillL, arPlaces_get m s 0 k hk']
    have h1 : Nat.beq v.cells.size s = true := by rw [hv]; exact Nat.beq_refl s
    have h2 : Nat.ble (0 + k * s + v.cells.size) (pre ++ old).length = true := by
      refine Nat.ble_eq_true_of_le ?_
      rw [List.length_append, hp, ho', hv]; omega
    simp only [h1, h2]
    have h3 : pre ++ old = pre ++ (old.take s ++ old.drop s) := by rw [List.take_append_drop]
    have hlv : (old.take s).length = v.cells.toList.length := by
      have : v.cells.toList.length = s := by simpa using hv
      rw [this, List.length_take]; omega
    have h4 : putAt (pre ++ old) (0 + k * s) v.cells.toList = (pre ++ v.cells.toList) ++ old.drop s := by
      rw [h3, Nat.zero_add, ← hp, putAt_mid _ _ _ _ hlv, List.append_assoc]
    rw [h4, fill_all s m vs (k + 1) (pre ++ v.cells.toList) (old.drop s) (by simp at hk; omega) (by rw [List.length_append, hp, Array.length_toList, hv, Nat.succ_mul]) (by rw [List.length_drop, ho']; omega) (fun u hu => hs u (by simp [hu]))]
    simp [zcells]
def sizesB (s : Nat) : List Value → Bool
  | [] => true
  | v :: r => match Nat.beq v.cells.size s with
    | true => sizesB s r
    | false => false
theorem sizesB_mem {s : Nat} : ∀ {vs : List Value}, sizesB s vs = true → ∀ v ∈ vs, v.cells.size = s
  | v :: r, h, u, hu => by
    unfold sizesB at h
    split at h
    · rename_i h1
      rcases List.mem_cons.1 hu with rfl | hu
      · exact Nat.eq_of_beq_eq_true h1
      · exact sizesB_mem h u hu
    · cases h
def snds : List (Nat × Operand) → List Operand
  | [] => []
  | (_, x) :: r => x :: snds r
def idxB : Nat → List (Nat × Operand) → Bool
  | _, [] => true
  | k, (i, _) :: r => match Nat.beq i k with
    | true => idxB (k + 1) r
    | false => false
theorem parts_enum {fr : Fr} : ∀ {xs : List (Nat × Operand)} {k : Nat} {vs : List Value}, idxB k xs = true → Fr.evs fr (snds xs) = some vs → Fr.parts fr xs = some (enumV k vs)
  | [], k, vs, _, h => by cases h; rfl
  | (i, x) :: r, k, vs, hi, h => by
    unfold idxB at hi
    split at hi
    · rename_i h1
      rw [snds, Fr.evs] at h
      split at h
      · rename_i v vs' h2 h3
        cases h
        rw [Fr.parts, h2, parts_enum hi h3, Nat.eq_of_beq_eq_true h1]
        rfl
      · cases h
    · cases hi
section
variable {P : Program} [Tys P] {n : Fm} {ops : Array Oper} {Q : Exit → Act → World → Prop} {fr : Fr} {w : World} {T : TypeId}
theorem Seg.buildSliceV {d : Nat} {U len e s : Nat} {xs : List (Nat × Operand)} {pos : String} {aft : Array Edge} {g : Option (Nat × Bool)} {rest : List Oper} {z : Value} {vs : List Value}
    (hg : gd ops fr g = some true) (hd : Nat.blt d n.n = true) (hf : slOf P U = some (e, s + 1)) (hz : zerOf P e = some z) (hzs : Nat.beq z.cells.size (s + 1) = true) (hlen : Nat.ble (len * (s + 1)) 16777216 = true) (hi : idxB 0 xs = true) (hx : Fr.evs fr (snds xs) = some vs)
    (hvl : Nat.beq vs.length len = true) (hvs : sizesB (s + 1) vs = true)
    (k : ∀ w1 b, Ext w w1 → Bx w1 b (vs.flatMap zcells) → w.heap.size ≤ b → w1.ownsRow w.heap.size e (s + 1) (.slice (some ⟨b, 0, none⟩) len len) len (vs.flatMap zcells) → Seg P n ops Q rest ((d, .slice (some ⟨b, 0, none⟩) len len) :: fr) w1) :
    Seg P n ops Q (⟨some d, .buildSlice U len xs.toArray, T, pos, aft, g⟩ :: rest) fr w :=
  Seg.buildSlice hg hd hf hz hzs hlen (parts_enum hi hx) (by
    have hl := Nat.eq_of_beq_eq_true hvl
    subst hl
    have := fill_all (s + 1) vs.length vs 0 [] (reps vs.length (zcells z)) (by omega) (by simp) (by rw [reps_length, show (zcells z).length = s + 1 from by simpa [zcells] using Nat.eq_of_beq_eq_true hzs]) (sizesB_mem hvs)
    simpa using this) k
omit [Tys P] in
theorem one_cells {v : Value} (h : v.oneCell' = true) : v.cells = #[v] := by cases v <;> first | rfl | cases h
theorem flat_one : ∀ {vs : List Value}, (∀ v ∈ vs, v.oneCell' = true) → vs.flatMap zcells = vs
  | [], _ => rfl
  | v :: vs, h => by
    rw [List.flatMap_cons, flat_one (fun u hu => h u (by simp [hu])), zcells, one_cells (h v (by simp))]
    rfl
theorem sizesB_one : ∀ {vs : List Value}, (∀ v ∈ vs, v.oneCell' = true) → sizesB 1 vs = true
  | [], _ => rfl
  | v :: vs, h => by
    have h1 : v.cells.size = 1 := by rw [one_cells (h v (by simp))]; rfl
    rw [sizesB, h1]
    exact sizesB_one (fun u hu => h u (by simp [hu]))
/-- A slice built of elements of one cell each. -/
theorem Seg.buildSliceO {d : Nat} {U len e : Nat} {xs : List (Nat × Operand)} {pos : String} {aft : Array Edge} {g : Option (Nat × Bool)} {rest : List Oper} {z : Value} {vs : List Value}
    (hg : gd ops fr g = some true) (hd : Nat.blt d n.n = true) (hf : slOf P U = some (e, 0 + 1)) (hz : zerOf P e = some z) (hzs : Nat.beq z.cells.size (0 + 1) = true) (hlen : Nat.ble (len * (0 + 1)) 16777216 = true) (hi : idxB 0 xs = true) (hx : Fr.evs fr (snds xs) = some vs)
    (hvl : Nat.beq vs.length len = true) (hvs : ∀ v ∈ vs, v.oneCell' = true)
    (k : ∀ w1 b, Ext w w1 → Bx w1 b vs → w.heap.size ≤ b → w1.ownsRow w.heap.size e (0 + 1) (.slice (some ⟨b, 0, none⟩) len len) len vs → Seg P n ops Q rest ((d, .slice (some ⟨b, 0, none⟩) len len) :: fr) w1) :
    Seg P n ops Q (⟨some d, .buildSlice U len xs.toArray, T, pos, aft, g⟩ :: rest) fr w :=
  Seg.buildSliceV hg hd hf hz hzs hlen hi hx hvl (sizesB_one hvs) (by rw [flat_one hvs]; exact k)
end
/-- A part put in its place, quickly told. -/
def fillT (N : Nat) (fl : List (Nat × Nat)) : List Value → List (Nat × Value) → Option (List Value)
  | cs, [] => some cs
  | cs, (i, v) :: rest => match fl[i]? with
    | none => none
    | some (o, s) => match Nat.beq v.cells.size s, Nat.ble (o + s) N with
      | true, true => fillT N fl (cs.take o ++ (v.cells.toList ++ cs.drop (o + s))) rest
      | _, _ => none
theorem putAt_cut {cs r : List Value} {o : Nat} (h : o + r.length ≤ cs.length) : putAt cs o r = cs.take o ++ (r ++ cs.drop (o + r.length)) := by
  have h1 : cs = cs.take o ++ ((cs.drop o).take r.length ++ (cs.drop o).drop r.length) := by
    rw [List.take_append_drop, List.take_append_drop]
  have h2 := putAt_mid r (cs.take o) ((cs.drop o).take r.length) ((cs.drop o).drop r.length) (by rw [List.length_take, List.length_drop]; omega)
  rw [← h1, List.length_take, show min o cs.length = o by omega] at h2
  rw [h2, List.drop_drop]
theorem fillT_L (N : Nat) (fl : List (Nat × Nat)) : ∀ (parts : List (Nat × Value)) (cs cs' : List Value), cs.length = N → fillT N fl cs parts = some cs' → fillL fl cs parts = some cs'
  | [], cs, cs', _, h => h
  | (i, v) :: rest, cs, cs', hN, h => by
    unfold fillT at h
    unfold fillL
    split at h
    · cases h
    · rename_i o s hf
      rw [hf]
      split at h
      · rename_i h1 h2
        have h1' := Nat.eq_of_beq_eq_true h1
        have h2' := Nat.le_of_ble_eq_true h2
        have hv : v.cells.toList.length = s := by simpa using h1'
        have h3 : Nat.ble (o + v.cells.size) cs.length = true := Nat.ble_eq_true_of_le (by omega)
        simp only [h1, h3]
        have h4 := putAt_cut (cs := cs) (r := v.cells.toList) (o := o) (by omega)
        rw [hv] at h4
        rw [h4]
        refine fillT_L N fl rest _ cs' ?_ h
        rw [List.length_append, List.length_append, List.length_take, List.length_drop, hv]
        omega
      · cases h
section
variable {P : Program} [Tys P] {n : Fm} {fr : Fr} {w : World} {T : TypeId}
theorem Yd.buildT {U : TypeId} {xs : List (Nat × Operand)} {p : Nat × Nat} {fl : List (Nat × Nat)} {z : Value} {parts : List (Nat × Value)} {cs : List Value} (N : Nat) (hf : fldsOf P U = some (p :: fl)) (hz : zerOf P U = some z) (hN : Nat.beq (zcells z).length N = true) (hx : Fr.parts fr xs = some parts)
    (hc : fillT N (p :: fl) (zcells z) parts = some cs) : Yd P n (.build U xs.toArray) T fr w (.agg cs.toArray) w :=
  .build hf hz hx (fillT_L N _ _ _ _ (Nat.eq_of_beq_eq_true hN) hc)
theorem Yd.buildArrT {U : TypeId} {xs : List (Nat × Operand)} {m e s : Nat} {z : Value} {parts : List (Nat × Value)} {cs : List Value} (N : Nat) (hf : arOf P U = some (m, e, s)) (hz : zerOf P U = some z) (hN : Nat.beq (zcells z).length N = true) (hx : Fr.parts fr xs = some parts)
    (hc : fillT N (arPlaces m s 0) (zcells z) parts = some cs) : Yd P n (.build U xs.toArray) T fr w (.agg cs.toArray) w :=
  .buildArr hf hz hx (fillT_L N _ _ _ _ (Nat.eq_of_beq_eq_true hN) hc)
/-- An element of an array that lies within something. -/
theorem Yd.indexArr1' {x y : Operand} {p : Addr} {len j : Nat} {U e : Nat} {q : IntKind} {i : Int} {k : Nat} (hU : arOf P U = some (len, e, 1)) (hx : Fr.ev fr x = some (.pointer (some (p.add j)))) (hy : Fr.ev fr y = some (.int q i)) (hk : NatOf i k) (h1 : k < len) :
    Yd P n (.indexAddr U x y) T fr w (.pointer (some (p.add (j + k)))) w := by
  rw [← Deep.add_add]; exact .indexArr1 hU hx hy hk h1
theorem Yd.indexArr' {x y : Operand} {p : Addr} {len j : Nat} {U e s : Nat} {q : IntKind} {i : Int} {k : Nat} (hU : arOf P U = some (len, e, s)) (hx : Fr.ev fr x = some (.pointer (some (p.add j)))) (hy : Fr.ev fr y = some (.int q i)) (hk : NatOf i k) (h1 : k < len) :
    Yd P n (.indexAddr U x y) T fr w (.pointer (some (p.add (j + k * s)))) w := by
  rw [← Deep.add_add]; exact .indexArr hU hx hy hk h1
end
end Go.Proofs.YtahpiaaffeiadaaGreatDoor
namespace Go.Proofs.YtahpiaaffeiadaaGreatDoor
open Go Go.RowKit
section
variable {P : Program} {n : Fm} {fr : Fr} {w : World} {T U U' : TypeId} {x y : Operand}
theorem run_equal_lits {a b : Value} {L M : List Lit} {D : Nat} {p : Prop} [Decidable p] (hp : L = M ↔ p) (hk : P.keyTypeAt 50 U = true) (fa : a.formed P U = true) (fb : b.formed P U = true) (ka : P.keyLits D U a.cells.toList = some L) (kb : P.keyLits D U b.cells.toList = some M) :
    (Op.equal U a b).run P w = .ok (decide p) w := by
  obtain ⟨r, h1, h2⟩ := run_equalIn_deep (P := P) (10000 - 50) 50 U hk w D D a b L M fa fb ka kb
  have : r = decide p := by
    rw [Bool.eq_iff_iff, h2, hp]; simp
  rw [← this]
  exact h1
theorem eqGuard_agg {op : BinOp} {as bs : Array Value} (hg : P.eqGuardType P.depth U = false) : (eqGuard op U x y (.agg as) (.agg bs)).run P w = .ok () w := by
  cases op <;> simp [eqGuard, hg]
/-- Structs compared: by their literals. -/
theorem Yd.eqlD {as bs : Array Value} {L M : List Lit} {D : Nat} {p : Prop} [Decidable p] (hx : Fr.ev fr x = some (.agg as)) (hy : Fr.ev fr y = some (.agg bs)) (hg : P.eqGuardType P.depth U = false) (hk : P.keyTypeAt 50 U = true) (fa : (Value.agg as).formed P U = true) (fb : (Value.agg bs).formed P U = true)
    (ka : P.keyLits D U as.toList = some L) (kb : P.keyLits D U bs.toList = some M) (hp : L = M ↔ p) : Yd P n (.binOp .eql U x y U') T fr w (.bool (decide p)) w :=
  .bin hx hy (eqGuard_agg hg) (by simp [binOp, run_equal_lits hp hk fa fb ka kb])
theorem Yd.neqD {as bs : Array Value} {L M : List Lit} {D : Nat} {p : Prop} [Decidable p] (hx : Fr.ev fr x = some (.agg as)) (hy : Fr.ev fr y = some (.agg bs)) (hg : P.eqGuardType P.depth U = false) (hk : P.keyTypeAt 50 U = true) (fa : (Value.agg as).formed P U = true) (fb : (Value.agg bs).formed P U = true)
    (ka : P.keyLits D U as.toList = some L) (kb : P.keyLits D U bs.toList = some M) (hp : L = M ↔ p) : Yd P n (.binOp .neq U x y U') T fr w (.bool (decide (¬ p))) w :=
  .bin hx hy (eqGuard_agg hg) (by simp [binOp, run_equal_lits hp hk fa fb ka kb])
end
/-- A part of a slice. -/
theorem Sl.cut {w : World} {k m c lo hi : Nat} {ao : Option Addr} {cs : List Value} (h : Sl w k (.slice ao m c) m cs) (h1 : lo ≤ hi) (h2 : hi ≤ m) (h3 : m ≤ c) : Sl w k (sliced ao lo hi c k) (hi - lo) ((cs.drop (lo * k)).take ((hi - lo) * k)) := by
  obtain ⟨ao', c', he, hl, hr, hz⟩ := h
  cases he
  have hlen : ((cs.drop (lo * k)).take ((hi - lo) * k)).length = (hi - lo) * k := by
    rw [List.length_take, List.length_drop, hl, Nat.sub_mul]
    have : hi * k ≤ m * k := Nat.mul_le_mul_right k h2
    omega
  refine ⟨_, _, rfl, hlen, fun a ha => ?_, fun ha => ?_⟩
  · split at ha
    · rename_i hc
      have h0 : hi - lo = 0 := by omega
      have : (cs.drop (lo * k)).take ((hi - lo) * k) = [] := List.eq_nil_of_length_eq_zero (by rw [hlen, h0, Nat.zero_mul])
      rw [this]
      intro j v hj; simp at hj
    · cases ao with
      | none => cases ha
      | some b =>
        cases ha
        exact (hr b rfl).part (lo * k) ((hi - lo) * k)
  · split at ha
    · have := hz ha; omega
    · cases ao with
      | none => have := hz rfl; omega
      | some b => cases ha
end Go.Proofs.YtahpiaaffeiadaaGreatDoor
namespace Go.Proofs.YtahpiaaffeiadaaGreatDoor
open Go Go.RowKit
/-- The head of such a region: it reads the world w. -/
structure SegS (P : Program) (n : Fm) (ops : Array Oper) (w : World) (K : Act → Prop) (l : List Oper) (fr : Fr) : Prop where
  out : ∀ a, Fr.Of fr n a → wpStill P ops w K l a
section
variable {P : Program} {n : Fm} {ops : Array Oper} {K : Act → Prop} {Q : Exit → Act → World → Prop} {fr : Fr} {w : World}
theorem SegS.step {d : Nat} {op : Op} {T : TypeId} {pos : String} {aft : Array Edge} {g : Option (Nat × Bool)} {rest : List Oper} {v : Value}
    (hg : gd ops fr g = some true) (hd : Nat.blt d n.n = true) (hy : Yd P n op T fr w v w) (k : SegS P n ops w K rest ((d, v) :: fr)) :
    SegS P n ops w K (⟨some d, op, T, pos, aft, g⟩ :: rest) fr := .mk fun a ha => by
  refine wpStill_step fun K' hK => ?_
  rw [if_pos (gd_wanted ha (o := ⟨some d, op, T, pos, aft, g⟩) hg)]
  unfold Oper.still
  rw [hy.out a ha (some d) pos aft g]
  exact ⟨rfl, hK _ (k.out _ (ha.put hd _))⟩
theorem SegS.skip {d : Nat} {op : Op} {T : TypeId} {pos : String} {aft : Array Edge} {g : Option (Nat × Bool)} {rest : List Oper}
    (hg : gd ops fr g = some false) (hd : Nat.blt d n.n = true) (k : SegS P n ops w K rest ((d, undef) :: fr)) :
    SegS P n ops w K (⟨some d, op, T, pos, aft, g⟩ :: rest) fr := .mk fun a ha => by
  refine wpStill_step fun K' hK => ?_
  rw [if_neg (by rw [gd_wanted ha (o := ⟨some d, op, T, pos, aft, g⟩) hg]; simp)]
  exact hK _ (k.out _ (ha.put hd _))
theorem SegS.nil {t : List Oper} (h : Seg P n ops Q t fr w) : SegS P n ops w (fun a => wpList P ops Q t a w) [] fr := .mk fun a ha => h.out a ha
theorem Cd.still (k : Nat) {id : Nat} {l : List Oper} (hm : P.follows .mixedOrders = true) (hB : Region.lexTailB .any l.toArray k = true)
    (h : ∀ w1, Ext w w1 → SegS P n l.toArray w1 (fun a => wpList P l.toArray Q (l.drop k) a w1) (l.take k) fr) : Cd P n Q (.region id l.toArray true) fr w := .mk fun a ha =>
  wp_region_still_tail k hm hB ((h w.drew (Ext.drew w)).out a ha)
end
end Go.Proofs.YtahpiaaffeiadaaGreatDoor
namespace Go.Proofs.YtahpiaaffeiadaaGreatDoor
open Go Go.RowKit
section
variable {P : Program} {ops : Array Oper} {Q : Exit → Act → World → Prop} {md : Region.Mode} {S : World → Prop} {z : Nat}
/-- Whatever order is picked; S holds behind every operation ahead of number z; from z on nothing more is taken first. -/
def wpAnyG (P : Program) (md : Region.Mode) (ops : Array Oper) (Q : Exit → Act → World → Prop) (S : World → Prop) (z : Nat) : Nat → Array Bool → Act → World → Prop
  | 0, listed, a, w => Region.ready md ops listed = [] ∧ Q .normal a w
  | fuel + 1, listed, a, w =>
    (Region.ready md ops listed = [] → Q .normal a w) ∧
    ∀ i ∈ Region.ready md ops listed, wpOp P ops Q i (fun a' w' => if i < z then S w' ∧ wpAnyG P md ops Q S z fuel (listed.setIfInBounds i true) a' w' else wpAny P md ops Q fuel (listed.setIfInBounds i true) a' w') a w
theorem wpAny_of_G : ∀ (fuel : Nat) (listed : Array Bool) (a : Act) (w : World), wpAnyG P md ops Q S z fuel listed a w → wpAny P md ops Q fuel listed a w
  | 0, _, _, _, h => h
  | fuel + 1, _, _, _, h => ⟨h.1, fun i hi => wpOp_mono (fun a' w' h' => by
      by_cases hz : i < z
      · rw [if_pos hz] at h'; exact wpAny_of_G fuel _ a' w' h'.2
      · rw [if_neg hz] at h'; exact h') (h.2 i hi)⟩
theorem wpAnyG_mono {S' : World → Prop} (hS : ∀ w, S' w → S w) : ∀ (fuel : Nat) (listed : Array Bool) (a : Act) (w : World), wpAnyG P md ops Q S' z fuel listed a w → wpAnyG P md ops Q S z fuel listed a w
  | 0, _, _, _, h => h
  | fuel + 1, _, _, _, h => ⟨h.1, fun i hi => wpOp_mono (fun a' w' h' => by
      by_cases hz : i < z
      · rw [if_pos hz] at h' ⊢; exact ⟨hS _ h'.1, wpAnyG_mono hS fuel _ a' w' h'.2⟩
      · rw [if_neg hz] at h' ⊢; exact h') (h.2 i hi)⟩
/-- All from number z on wait for number i. -/
def tailWaits (md : Region.Mode) (ops : Array Oper) (z i : Nat) : Bool := (List.range ops.size).all fun t => decide (t < z) || Region.waitsFor md ops t i
theorem wpAnyG_first {i : Nat} {oi : Oper} {v : Value} (hi : ops[i]? = some oi) (hz : i < z) (htail : tailWaits md ops z i = true) (hsel : ∀ (j : Nat) (o : Oper) cs b, ops[j]? = some o → o.op ≠ .select cs b)
    (hQ : ∀ c a w, Q (.panic c) (a.put oi.dst v) w → Q (.panic c) a w) :
    ∀ (fuel : Nat) (listed : Array Bool) (a : Act) (w : World),
      (∀ j oj, ops[j]? = some oj → j ≠ i → listed.getD j true = false → (∀ e ∈ oj.after, Region.binds md e = true → e.on ≠ i) → oi.apart ops oj = true) →
      i ∈ Region.ready md ops listed → YieldsIf P ops S oi v a → S w →
      wpAnyG P md ops Q S z fuel (listed.setIfInBounds i true) (a.put oi.dst v) w → wpAnyG P md ops Q S z (fuel + 1) listed a w := by
  intro fuel
  induction fuel with
  | zero =>
    intro listed a w _ hr hy hS H
    refine ⟨fun h => (by rw [h] at hr; cases hr), fun j hj => ?_⟩
    by_cases hji : j = i
    · subst hji; exact hy.wpOp hi hS (by rw [if_pos hz]; exact ⟨hS, H⟩)
    · have := ready_mono hj hji
      rw [H.1] at this
      cases this
  | succ fuel ih =>
    intro listed a w hfree hr hy hS H
    refine ⟨fun h => (by rw [h] at hr; cases hr), fun j hj => ?_⟩
    by_cases hji : j = i
    · subst hji; exact hy.wpOp hi hS (by rw [if_pos hz]; exact ⟨hS, H⟩)
    · have h1 := H.2 j (ready_mono hj hji)
      obtain ⟨hjun, oj, hoj, hall⟩ := mem_ready.1 hj
      have hnot : ∀ e ∈ oj.after, Region.binds md e = true → e.on ≠ i := fun e he hb heq => by
        have h1 := hall e he hb
        have h0 := (mem_ready.1 hr).1
        rw [heq] at h1
        rcases Nat.lt_or_ge i listed.size with h' | h'
        · simp [h'] at h0 h1; rw [h0] at h1; cases h1
        · simp [Array.getElem?_eq_none h'] at h1
      have hjz : j < z := by
        rcases Nat.lt_or_ge j z with h' | h'
        · exact h'
        · have hjs : j < ops.size := (Array.getElem?_eq_some_iff.1 hoj).1
          have := List.all_eq_true.1 htail j (List.mem_range.2 hjs)
          simp only [Bool.or_eq_true, decide_eq_true_eq] at this
          rcases this with h2 | h2
          · omega
          · obtain ⟨oj', ho', e, he, hb, hon⟩ := Region.waitsFor_spec h2
            have : oj' = oj := Option.some.inj (ho'.symm.trans hoj)
            subst this
            exact absurd hon (hnot e he hb)
      simp only [if_pos hjz] at h1 ⊢
      have h2 := wpOp_putIf hoj (hfree j oj hoj hji hjun hnot) (fun cs b => hsel i oi cs b hi) (fun cs b => hsel j oj cs b hoj) hQ hy h1
      have hfree' : ∀ k ok, ops[k]? = some ok → k ≠ i → (listed.setIfInBounds j true).getD k true = false →
          (∀ e ∈ ok.after, Region.binds md e = true → e.on ≠ i) → oi.apart ops ok = true := fun k ok hk hki hun hno => by
        refine hfree k ok hk hki ?_ hno
        by_cases hjk : j = k
        · subst hjk; exact hjun
        · rw [getD_set_ne true hjk] at hun; exact hun
      refine wpOp_mono (fun a' w' h3 => ⟨h3.2.1, ih (listed.setIfInBounds j true) a' w' hfree' (ready_mono hr (Ne.symm hji)) h3.1 h3.2.1 ?_⟩) h2
      rw [Array.setIfInBounds_comm _ _ hji]
      exact h3.2.2
end
/-- What is left of a region, from a world w on: what comes ahead of number z only adds to w. -/
structure SegG (P : Program) (n : Fm) (ops : Array Oper) (Q : Exit → Act → World → Prop) (z fuel : Nat) (listed : Array Bool) (fr : Fr) (w : World) : Prop where
  out : ∀ a, Fr.Of fr n a → wpAnyG P .any ops (NoPanic Q) (Ext w) z fuel listed a w
/-- Behind a single operation of such a region. -/
def GPost (P : Program) (ops : Array Oper) (Q : Exit → Act → World → Prop) (z fuel : Nat) (listed : Array Bool) (i : Nat) (w : World) : Exit → Act → World → Prop := fun e a' w' =>
  e = .normal ∧ if i < z then Ext w w' ∧ wpAnyG P .any ops (NoPanic Q) (Ext w') z fuel listed a' w' else wpAny P .any ops (NoPanic Q) fuel listed a' w'
def APost (P : Program) (ops : Array Oper) (Q : Exit → Act → World → Prop) (fuel : Nat) (listed : Array Bool) : Exit → Act → World → Prop := fun e a' w' =>
  e = .normal ∧ wpAny P .any ops (NoPanic Q) fuel listed a' w'
section
variable {P : Program} {n : Fm} {ops : Array Oper} {Q : Exit → Act → World → Prop} {z fuel : Nat} {listed : Array Bool} {fr : Fr} {w : World}
theorem Cd.held (z : Nat) {id : Nat} {l : List Oper} (hm : P.follows .mixedOrders = true) (h : ∀ w1, Ext w w1 → SegG P n l.toArray Q z l.length (Array.replicate l.length false) fr w1) : Cd P n Q (.region id l.toArray true) fr w := .mk fun _ ha =>
  wp_region_noPanic (wp_region_any hm (wpAny_of_G _ _ _ _ (by simpa using (h w.drew (Ext.drew w)).out _ ha)))
theorem SegG.take (i : Nat) {d : Nat} {op : Op} {T : TypeId} {pos : String} {aft : Array Edge} {g : Option (Nat × Bool)} {v : Value}
    (hi : ops[i]? = some ⟨some d, op, T, pos, aft, g⟩) (hs : Region.noSelect ops = true) (hf : Region.free .any ops listed i = true) (hr : (Region.ready .any ops listed).contains i = true) (hz : Nat.blt i z = true) (ht : tailWaits .any ops z i = true)
    (hg : gd ops fr g = some true) (hd : Nat.blt d n.n = true) (hy : ∀ w', Ext w w' → Yd P n op T fr w' v w')
    (k : SegG P n ops Q z fuel (listed.setIfInBounds i true) ((d, v) :: fr) w) : SegG P n ops Q z (fuel + 1) listed fr w := .mk fun a ha =>
  wpAnyG_first hi (Nat.le_of_ble_eq_true hz) ht (Region.noSelect_spec hs) (fun _ _ _ h => h) fuel listed a w (Region.free_spec hi hf) (by simpa using hr)
    (.inl ⟨gd_wanted ha (o := ⟨some d, op, T, pos, aft, g⟩) hg, fun w' hw' => (hy w' hw').out a ha _ _ _ _⟩) (Ext.refl w) (k.out _ (ha.put hd _))
theorem SegG.skip (i : Nat) {d : Nat} {op : Op} {T : TypeId} {pos : String} {aft : Array Edge} {g : Option (Nat × Bool)}
    (hi : ops[i]? = some ⟨some d, op, T, pos, aft, g⟩) (hs : Region.noSelect ops = true) (hf : Region.free .any ops listed i = true) (hr : (Region.ready .any ops listed).contains i = true) (hz : Nat.blt i z = true) (ht : tailWaits .any ops z i = true)
    (hg : gd ops fr g = some false) (hd : Nat.blt d n.n = true)
    (k : SegG P n ops Q z fuel (listed.setIfInBounds i true) ((d, undef) :: fr) w) : SegG P n ops Q z (fuel + 1) listed fr w := .mk fun a ha =>
  wpAnyG_first hi (Nat.le_of_ble_eq_true hz) ht (Region.noSelect_spec hs) (fun _ _ _ h => h) fuel listed a w (Region.free_spec hi hf) (by simpa using hr)
    (.inr ⟨gd_wanted ha (o := ⟨some d, op, T, pos, aft, g⟩) hg, rfl⟩) (Ext.refl w) (k.out _ (ha.put hd _))
/-- A post that no way out but the normal one meets serves for any. -/
theorem operWp_normal {R Q' : Exit → Act → World → Prop} {K : Act → World → Prop} {o : Oper} {a : Act} {w : World} (hR : ∀ e a w, R e a w → e = .normal) (hh : o.wp P a w K R) : o.wp P a w K Q' := by
  unfold Oper.wp at *
  generalize (execOp a.eval o).run P w = r at *
  have hlet : LetsOut R → False := fun ⟨a', w', h⟩ => by
    have := hR _ _ _ h
    cases this
  cases r with
  | ok n w' =>
    cases n <;> simp only [Oper.upon] at hh ⊢ <;>
      first
        | exact hh
        | exact Calls.mono hh (fun e w'' he => by
            cases e with
            | returned v => exact he
            | panicked c => exact absurd (hR _ _ _ he) (by simp)
            | outgrown => exact (hlet he).elim)
  | halt x w' =>
    cases x <;> simp only [Oper.upon] at hh ⊢ <;> first | exact hh | exact absurd (hR _ _ _ hh) (by simp)
theorem wpOp_of_seg {R : Exit → Act → World → Prop} {K : Act → World → Prop} {i : Nat} {o : Oper} (hi : ops[i]? = some o) (hR : ∀ e a w, R e a w → e = .normal ∧ K a w) (h : Seg P n ops R [o] fr w) {a : Act} (ha : Fr.Of fr n a) : wpOp P ops (NoPanic Q) i K a w := by
  have h1 := h.out a ha
  unfold wpOp
  simp only [hi]
  unfold wpList at h1
  split at h1
  · rename_i hw
    simp only [hw, if_true]
    left
    rcases h1 with h1 | ⟨_, a', w', h2⟩
    · exact operWp_normal (fun e a w h => (hR e a w h).1) (Oper.wp_mono (fun a w (h : R .normal a w) => (hR _ _ _ h).2) h1)
    · exact absurd (hR _ _ _ h2).1 (by simp)
  · rename_i hw
    simp only [hw]
    exact (hR _ _ _ h1).2
theorem SegG.oneSeg (i : Nat) {o : Oper} (hi : ops[i]? = some o) (hr : Region.ready .any ops listed = [i]) (h : Seg P n ops (GPost P ops Q z fuel (listed.setIfInBounds i true) i w) [o] fr w) : SegG P n ops Q z (fuel + 1) listed fr w := .mk fun a ha => by
  refine ⟨fun h0 => (by rw [h0] at hr; cases hr), fun j hj => ?_⟩
  rw [hr] at hj
  obtain rfl : j = i := by simpa using hj
  refine wpOp_of_seg hi (fun e a' w' hh => ⟨hh.1, ?_⟩) h ha
  have h2 := hh.2
  by_cases hz : j < z
  · rw [if_pos hz] at h2 ⊢
    exact ⟨h2.1, wpAnyG_mono (fun w'' h3 => h2.1.trans h3) _ _ _ _ h2.2⟩
  · rw [if_neg hz] at h2 ⊢; exact h2
/-- Back in the region, behind an operation that only added. -/
theorem SegG.back {i : Nat} {w' : World} (hz : Nat.blt i z = true) (hE : Ext w w') (h : SegG P n ops Q z fuel listed fr w') : Seg P n ops (GPost P ops Q z fuel listed i w) [] fr w' :=
  Seg.nil (.mk fun a ha => ⟨rfl, by rw [if_pos (show i < z from Nat.le_of_ble_eq_true hz)]; exact ⟨hE, h.out a ha⟩⟩)
/-- .. behind the first one of the end. -/
theorem SegG.end_ {i : Nat} {w' : World} (hz : Nat.ble z i = true) (h : SegA P n ops Q fuel listed fr w') : Seg P n ops (GPost P ops Q z fuel listed i w) [] fr w' :=
  Seg.nil (.mk fun a ha => ⟨rfl, by rw [if_neg (show ¬ i < z from Nat.not_lt.2 (Nat.le_of_ble_eq_true hz))]; exact h.out a ha⟩)
theorem SegG.done (hr : Region.ready .any ops listed = []) (h : At n Q .normal fr w) : SegG P n ops Q z fuel listed fr w := .mk fun a ha => by
  cases fuel with
  | zero => exact ⟨hr, h.out a ha⟩
  | succ f => exact ⟨fun _ => h.out a ha, by rw [hr]; simp⟩
theorem SegA.oneSeg (i : Nat) {o : Oper} (hi : ops[i]? = some o) (hr : Region.ready .any ops listed = [i]) (h : Seg P n ops (APost P ops Q fuel (listed.setIfInBounds i true)) [o] fr w) : SegA P n ops Q (fuel + 1) listed fr w := .mk fun a ha => by
  refine ⟨fun h0 => (by rw [h0] at hr; cases hr), fun j hj => ?_⟩
  rw [hr] at hj
  obtain rfl : j = i := by simpa using hj
  exact wpOp_of_seg hi (fun e a' w' hh => hh) h ha
theorem SegA.back (h : SegA P n ops Q fuel listed fr w) : Seg P n ops (APost P ops Q fuel listed) [] fr w :=
  Seg.nil (.mk fun a ha => ⟨rfl, h.out a ha⟩)
/-- A guard that is not decided: both ways are walked. -/
theorem SegG.gsplit (i : Nat) {d : Option Nat} {op : Op} {T : TypeId} {pos : String} {aft : Array Edge} {j : Nat} {b : Bool} {k : Nat} {t : Bool} (_hi : ops[i]? = some ⟨d, op, T, pos, aft, some (j, b)⟩) (_hj : gdst ops j = some k) (hk : Fr.look fr k = some (.bool t))
    (ht : t = true → SegG P n ops Q z fuel listed ((k, .bool true) :: fr) w) (hf : t = false → SegG P n ops Q z fuel listed ((k, .bool false) :: fr) w) : SegG P n ops Q z fuel listed fr w := .mk fun a ha => by
  cases t
  · exact (hf rfl).out a (ha.again hk)
  · exact (ht rfl).out a (ha.again hk)
theorem SegG.gsplitp (i : Nat) {d : Option Nat} {op : Op} {T : TypeId} {pos : String} {aft : Array Edge} {j : Nat} {b : Bool} {k : Nat} {p : Prop} [Decidable p] (hi : ops[i]? = some ⟨d, op, T, pos, aft, some (j, b)⟩) (hj : gdst ops j = some k) (hk : Fr.look fr k = some (.bool (decide p)))
    (ht : p → SegG P n ops Q z fuel listed ((k, .bool true) :: fr) w) (hf : ¬ p → SegG P n ops Q z fuel listed ((k, .bool false) :: fr) w) : SegG P n ops Q z fuel listed fr w :=
  SegG.gsplit i hi hj hk (fun h => ht (of_decide_eq_true h)) (fun h => hf (of_decide_eq_false h))
end
end Go.Proofs.YtahpiaaffeiadaaGreatDoor
namespace Go.Proofs.YtahpiaaffeiadaaGreatDoor
open Go Go.RowKit
/-- What is left of such a region, from a world w on: what comes ahead of number z writes block b alone. -/
structure SegB (P : Program) (n : Fm) (ops : Array Oper) (Q : Exit → Act → World → Prop) (b z fuel : Nat) (listed : Array Bool) (fr : Fr) (w : World) : Prop where
  out : ∀ a, Fr.Of fr n a → wpAnyG P .any ops (NoPanic Q) (Wr b w) z fuel listed a w
def BPost (P : Program) (ops : Array Oper) (Q : Exit → Act → World → Prop) (b z fuel : Nat) (listed : Array Bool) (i : Nat) (w : World) : Exit → Act → World → Prop := fun e a' w' =>
  e = .normal ∧ if i < z then Wr b w w' ∧ wpAnyG P .any ops (NoPanic Q) (Wr b w') z fuel listed a' w' else wpAny P .any ops (NoPanic Q) fuel listed a' w'
section
variable {P : Program} {n : Fm} {ops : Array Oper} {Q : Exit → Act → World → Prop} {b z fuel : Nat} {listed : Array Bool} {fr : Fr} {w : World}
theorem Cd.heldB (b z : Nat) {id : Nat} {l : List Oper} (hm : P.follows .mixedOrders = true) (h : ∀ w1, Ext w w1 → SegB P n l.toArray Q b z l.length (Array.replicate l.length false) fr w1) : Cd P n Q (.region id l.toArray true) fr w := .mk fun _ ha =>
  wp_region_noPanic (wp_region_any hm (wpAny_of_G _ _ _ _ (by simpa using (h w.drew (Ext.drew w)).out _ ha)))
theorem SegB.take (i : Nat) {d : Nat} {op : Op} {T : TypeId} {pos : String} {aft : Array Edge} {g : Option (Nat × Bool)} {v : Value}
    (hi : ops[i]? = some ⟨some d, op, T, pos, aft, g⟩) (hs : Region.noSelect ops = true) (hf : Region.free .any ops listed i = true) (hr : (Region.ready .any ops listed).contains i = true) (hz : Nat.blt i z = true) (ht : tailWaits .any ops z i = true)
    (hg : gd ops fr g = some true) (hd : Nat.blt d n.n = true) (hy : ∀ w', Wr b w w' → Yd P n op T fr w' v w')
    (k : SegB P n ops Q b z fuel (listed.setIfInBounds i true) ((d, v) :: fr) w) : SegB P n ops Q b z (fuel + 1) listed fr w := .mk fun a ha =>
  wpAnyG_first hi (Nat.le_of_ble_eq_true hz) ht (Region.noSelect_spec hs) (fun _ _ _ h => h) fuel listed a w (Region.free_spec hi hf) (by simpa using hr)
    (.inl ⟨gd_wanted ha (o := ⟨some d, op, T, pos, aft, g⟩) hg, fun w' hw' => (hy w' hw').out a ha _ _ _ _⟩) (Ext.wr (Ext.refl w) b) (k.out _ (ha.put hd _))
theorem SegB.oneSeg (i : Nat) {o : Oper} (hi : ops[i]? = some o) (hr : Region.ready .any ops listed = [i]) (h : Seg P n ops (BPost P ops Q b z fuel (listed.setIfInBounds i true) i w) [o] fr w) : SegB P n ops Q b z (fuel + 1) listed fr w := .mk fun a ha => by
  refine ⟨fun h0 => (by rw [h0] at hr; cases hr), fun j hj => ?_⟩
  rw [hr] at hj
  obtain rfl : j = i := by simpa using hj
  refine wpOp_of_seg hi (fun e a' w' hh => ⟨hh.1, ?_⟩) h ha
  have h2 := hh.2
  by_cases hz : j < z
  · rw [if_pos hz] at h2 ⊢
    exact ⟨h2.1, wpAnyG_mono (fun w'' h3 => h2.1.trans h3) _ _ _ _ h2.2⟩
  · rw [if_neg hz] at h2 ⊢; exact h2
/-- Back in the region, behind an operation that wrote that block alone. -/
theorem SegB.back {i : Nat} {w' : World} (hz : Nat.blt i z = true) (hE : Wr b w w') (h : SegB P n ops Q b z fuel listed fr w') : Seg P n ops (BPost P ops Q b z fuel listed i w) [] fr w' :=
  Seg.nil (.mk fun a ha => ⟨rfl, by rw [if_pos (show i < z from Nat.le_of_ble_eq_true hz)]; exact ⟨hE, h.out a ha⟩⟩)
/-- .. behind the first one of the end. -/
theorem SegB.end_ {i : Nat} {w' : World} (hz : Nat.ble z i = true) (h : SegA P n ops Q fuel listed fr w') : Seg P n ops (BPost P ops Q b z fuel listed i w) [] fr w' :=
  Seg.nil (.mk fun a ha => ⟨rfl, by rw [if_neg (show ¬ i < z from Nat.not_lt.2 (Nat.le_of_ble_eq_true hz))]; exact h.out a ha⟩)
theorem SegB.done (hr : Region.ready .any ops listed = []) (h : At n Q .normal fr w) : SegB P n ops Q b z fuel listed fr w := .mk fun a ha => by
  cases fuel with
  | zero => exact ⟨hr, h.out a ha⟩
  | succ f => exact ⟨fun _ => h.out a ha, by rw [hr]; simp⟩
end
end Go.Proofs.YtahpiaaffeiadaaGreatDoor
namespace Go.Proofs.YtahpiaaffeiadaaGreatDoor
open Go Go.RowKit
variable {P : Program} {n : Fm} {ops : Array Oper} {Q : Exit → Act → World → Prop} {z fuel : Nat} {listed : Array Bool} {fr : Fr} {w : World}
theorem SegG.twoSeg (i j : Nat) {o o' : Oper} (hi : ops[i]? = some o) (hj : ops[j]? = some o') (hr : Region.ready .any ops listed = [i, j])
    (h : Seg P n ops (GPost P ops Q z fuel (listed.setIfInBounds i true) i w) [o] fr w) (h' : Seg P n ops (GPost P ops Q z fuel (listed.setIfInBounds j true) j w) [o'] fr w) : SegG P n ops Q z (fuel + 1) listed fr w := .mk fun a ha => by
  have one : ∀ (i : Nat) (o : Oper), ops[i]? = some o → Seg P n ops (GPost P ops Q z fuel (listed.setIfInBounds i true) i w) [o] fr w →
      wpOp P ops (NoPanic Q) i (fun a' w' => if i < z then Ext w w' ∧ wpAnyG P .any ops (NoPanic Q) (Ext w) z fuel (listed.setIfInBounds i true) a' w' else wpAny P .any ops (NoPanic Q) fuel (listed.setIfInBounds i true) a' w') a w := fun i o hi h => by
    refine wpOp_of_seg hi (fun e a' w' hh => ⟨hh.1, ?_⟩) h ha
    have h2 := hh.2
    by_cases hz : i < z
    · rw [if_pos hz] at h2 ⊢
      exact ⟨h2.1, wpAnyG_mono (fun w'' h3 => h2.1.trans h3) _ _ _ _ h2.2⟩
    · rw [if_neg hz] at h2 ⊢; exact h2
  refine ⟨fun h0 => (by rw [h0] at hr; cases hr), fun k hk => ?_⟩
  rw [hr] at hk
  rcases (by simpa using hk : k = i ∨ k = j) with rfl | rfl
  · exact one _ _ hi h
  · exact one _ _ hj h'
end Go.Proofs.YtahpiaaffeiadaaGreatDoor
namespace Go.Proofs.YtahpiaaffeiadaaGreatDoor
open Go Go.RowKit
section
variable {P : Program} [Tys P] {n : Fm} {ops : Array Oper} {Q : Exit → Act → World → Prop} {fr : Fr} {w : World} {T : TypeId}
theorem run_appAt {U e s by' base m m' : Nat} {z v u : Value} {xs news : List Value} (hU : slOf P U = some (e, s + 1)) (hz : zerOf P e = some z) (hzs : Nat.beq z.cells.size (s + 1) = true) (hby : byOf P e = some by') (hsz : szOf P e = some (s + 1))
    (hown : w.ownsRow base e (s + 1) v m xs) (hs : Sl w (s + 1) u m' news) (h1 : ∀ c ∈ news, c.oneCell' = true) (hbase : base ≤ w.heap.size) (hb1 : m + m' ≤ maxLen) (hb2 : (m + m') * by' ≤ 140737488355328) :
    ∃ v' w', (Builtin.append_ #[U, U] T #[v, u]).run P w = .ok v' w' ∧ w'.ownsRow base e (s + 1) v' (m + m') (xs ++ news) ∧ w.grownBy w' v.ownBlock ∧ (v'.ownBlock = v.ownBlock ∨ v'.ownBlock = some w.heap.size) := by
  obtain ⟨hund, hsize⟩ := und_sl hU
  obtain ⟨i, hi, hib, his⟩ := run_inf hby hsz
  have hinfo := info_of_run hi
  have hzz : i.zero = some z := by
    have := run_zero hz w
    unfold zeroValue at this
    rw [Sem.run_bind, hi] at this
    simp only [Result.andThen_ok] at this
    cases hiz : i.zero with
    | none => rw [hiz] at this; simp at this
    | some z' => rw [hiz] at this; simp at this; rw [this]
  have hzs := Nat.eq_of_beq_eq_true hzs
  obtain ⟨ao, c, rfl, hl, hr, hn⟩ := hs
  cases ao with
  | none =>
    have hm' := hn rfl
    subst hm'
    have hnil : news = [] := List.eq_nil_of_length_eq_zero (by simpa using hl)
    subst hnil
    have hrun : (Builtin.append_ #[U, U] T #[v, .slice none 0 c]).run P w = .ok v w := by
      rcases hown.2 with ⟨rfl, rfl⟩ | ⟨g, cap, cur, rfl, hbg, hg, hnc, hcm, hcs, htake⟩
      · simp [Builtin.append_, run_underlying hund, sizeOf, hi, Builtin.lenOf, Builtin.firstCells]
      · simp [Builtin.append_, run_underlying hund, sizeOf, hi, Builtin.lenOf, Builtin.firstCells, hnc, storeCells]
    exact ⟨v, w, hrun, by simpa using hown, ⟨rfl, rfl, rfl, Nat.le_refl _, fun _ _ _ => rfl⟩, .inl rfl⟩
  | some a =>
    obtain ⟨v', w', h2, h3, h4, _, h5⟩ := run_append_own_at w base U T e i z (s + 1) by' hund hinfo hzz his hib hzs (by omega) v m xs hown a m' c news hl (hr a rfl) h1 hb1 hb2 hbase
    exact ⟨v', w', h2, h3, h4, h5⟩
/-- 'append(v, u...)', v one's own; where the new one lies. -/
theorem Seg.appendAt {d U e s by' base m m' : Nat} {x y : Operand} {pos : String} {aft : Array Edge} {g : Option (Nat × Bool)} {rest : List Oper} {z v u : Value} {xs news : List Value}
    (hg : gd ops fr g = some true) (hd : Nat.blt d n.n = true) (hU : slOf P U = some (e, s + 1)) (hz : zerOf P e = some z) (hzs : Nat.beq z.cells.size (s + 1) = true) (hby : byOf P e = some by') (hsz : szOf P e = some (s + 1))
    (hx : Fr.ev fr x = some v) (hy : Fr.ev fr y = some u) (hown : w.ownsRow base e (s + 1) v m xs) (hs : Sl w (s + 1) u m' news) (h1 : ∀ c ∈ news, c.oneCell' = true) (hbase : base ≤ w.heap.size) (hb : m + m' ≤ 100000000) (hb' : Nat.ble by' 1000000 = true)
    (k : ∀ v' w1, w1.ownsRow base e (s + 1) v' (m + m') (xs ++ news) → w.grownBy w1 v.ownBlock → (v'.ownBlock = v.ownBlock ∨ v'.ownBlock = some w.heap.size) → Seg P n ops Q rest ((d, v') :: fr) w1) :
    Seg P n ops Q (⟨some d, .call ⟨.builtin .append, #[x, y], #[U, U]⟩, T, pos, aft, g⟩ :: rest) fr w := by
  obtain ⟨v', w1, hrun, h2, h3, h4⟩ := run_appAt (T := T) hU hz hzs hby hsz hown hs h1 hbase (by unfold maxLen; omega) (by
    have h5 : (m + m') * by' ≤ 100000000 * 1000000 := Nat.mul_le_mul hb (Nat.le_of_ble_eq_true hb')
    omega)
  refine Seg.step hg hd (.val fun a ha d pos aft g => ?_) (k v' w1 h2 h3 h4)
  simp [execOp, resolve, invoke, builtin, ha.ev hx, ha.ev hy, hrun]
end
end Go.Proofs.YtahpiaaffeiadaaGreatDoor
namespace Go.Proofs.YtahpiaaffeiadaaGreatDoor
open Go Go.RowKit
/-- A block of these cells, whose frozen cell, if there is one, lies behind them. -/
def Bf (w : World) (b : Nat) (cs : List Value) : Prop := ∃ T lo hi, w.heap[b]? = some (.cells cs.toArray T (lo, hi)) ∧ cs.length ≤ lo
theorem Bf.row {w : World} {b : Nat} {cs : List Value} (h : Bf w b cs) : Row w ⟨b, 0, none⟩ cs := fun j v hj => by
  obtain ⟨T, lo, hi, hT, _⟩ := h
  have e : (Addr.add ⟨b, 0, none⟩ j) = ⟨b, j, none⟩ := by unfold Addr.add; split <;> simp_all
  rw [e]
  simp [World.cell?, hT, hj]
theorem Bf.lt {w : World} {b : Nat} {cs : List Value} (h : Bf w b cs) : b < w.heap.size := by
  obtain ⟨T, lo, hi, hT, _⟩ := h
  exact (Array.getElem?_eq_some_iff.1 hT).1
theorem Bf.ext {w w' : World} {b : Nat} {cs : List Value} (h : Bf w b cs) (k : Ext w w') : Bf w' b cs := by
  have := h.lt
  obtain ⟨T, lo, hi, hT, hl⟩ := h
  exact ⟨T, lo, hi, by rw [k.block _ this]; exact hT, hl⟩
theorem Bf.frozen {w : World} {b : Nat} {cs : List Value} (h : Bf w b cs) {j : Nat} (hj : j < cs.length) : w.frozen? ⟨b, j, none⟩ = false := by
  obtain ⟨T, lo, hi, hT, hl⟩ := h
  simp [World.frozen?, hT]
  omega
theorem heap_setCell_same' (w : World) (b k : Nat) (cs : Array Value) (T : TypeId) (f : Nat × Nat) (v : Value) (hT : w.heap[b]? = some (.cells cs T f)) : (w.setCell ⟨b, k, none⟩ v).heap[b]? = some (.cells (cs.setIfInBounds k v) T f) := by
  rw [setCell_eq_setRow w b k cs T f v hT]
  exact setRow_heap w b cs _ T _ hT
theorem Bf.set {w : World} {b : Nat} {cs : List Value} (h : Bf w b cs) (k : Nat) (v : Value) : Bf (w.setCell ⟨b, k, none⟩ v) b (cs.set k v) ∧ Wr b w (w.setCell ⟨b, k, none⟩ v) := by
  obtain ⟨T, lo, hi, hT, hl⟩ := h
  refine ⟨⟨T, lo, hi, by rw [heap_setCell_same' w b k cs.toArray T (lo, hi) v hT]; simp, by simpa using hl⟩, ⟨rfl, rfl, rfl, by simp, fun i _ hi => heap_setCell_other w _ i v (fun e => hi (by rw [e]))⟩⟩
section
variable {P : Program} [Tys P] {n : Fm} {ops : Array Oper} {Q : Exit → Act → World → Prop} {fr : Fr} {w : World} {T : TypeId}
theorem run_storeF {U : TypeId} {b k : Nat} {cs : List Value} {v : Value} (hU : szOf P U = some 1) (hv : v.oneCell' = true) (hB : Bf w b cs) (hk : k < cs.length) : (storeVar U (Addr.add ⟨b, 0, none⟩ k) v).run P w = .ok () (w.setCell ⟨b, k, none⟩ v) := by
  have hc : v.cells = #[v] := by cases v <;> first | rfl | cases hv
  have hcell := hB.row k cs[k] (by simp [hk])
  rw [addr_lit] at hcell ⊢
  have hf := hB.frozen hk
  unfold storeVar
  rw [Sem.run_bind, run_size hU]
  simp only [Result.andThen_ok, hc]
  simp only [List.size_toArray, List.length_cons, List.length_nil, Nat.zero_add, ne_eq, not_true_eq_false, if_false]
  simp [storeCells, Addr.add0, run_store P w _ v _ hv, hcell, hf]
theorem Seg.storeF {U : TypeId} {x y : Operand} {T : TypeId} {pos : String} {aft : Array Edge} {g : Option (Nat × Bool)} {rest : List Oper} {b k : Nat} {cs : List Value} {v : Value}
    (hg : gd ops fr g = some true) (hU : szOf P U = some 1) (hx : Fr.ev fr x = some (.pointer (some (Addr.add ⟨b, 0, none⟩ k)))) (hy : Fr.ev fr y = some v) (hv : v.oneCell' = true) (hB : Bf w b cs) (hk : k < cs.length)
    (kk : ∀ w1, Wr b w w1 → Bf w1 b (cs.set k v) → Seg P n ops Q rest fr w1) : Seg P n ops Q (⟨none, .store U x y, T, pos, aft, g⟩ :: rest) fr w :=
  Seg.step0 (w' := w.setCell ⟨b, k, none⟩ v) hg (.mk fun a ha d pos aft g => by
    simp [execOp, Instr.storeAt, Instr.sureAddr, ha.ev hx, ha.ev hy, run_storeF hU hv hB hk]) (kk _ (hB.set k v).2 (hB.set k v).1)
/-- '[]byte(s)'. -/
theorem Seg.stb {d : Nat} {U U' e k : Nat} {x : Operand} {pos : String} {aft : Array Edge} {g : Option (Nat × Bool)} {rest : List Oper} {l : List UInt8}
    (hg : gd ops fr g = some true) (hd : Nat.blt d n.n = true) (hS : strOf P U = some true) (hD : slOf P U' = some (e, k)) (he : kindOf P e = some .u8) (hx : Fr.ev fr x = some (.string ⟨l.toArray⟩))
    (kk : ∀ w1 b zs c, Ext w w1 → Bf w1 b (bytesV l ++ zs) → w.heap.size ≤ b → Seg P n ops Q rest ((d, .slice (some ⟨b, 0, none⟩) l.length c) :: fr) w1) :
    Seg P n ops Q (⟨some d, .convert U U' x, T, pos, aft, g⟩ :: rest) fr w := by
  have hrun := Lib.run_convert_string_bytes (P := P) w U U' e ⟨l.toArray⟩ (und_str hS) (und_sl hD).1 (und_kind he)
  refine Seg.step hg hd (w' := Lib.bytesWorld w e ⟨l.toArray⟩) (.val fun a ha d pos aft g => ?_) (kk _ w.heap.size (List.replicate (grownCap w (ByteArray.mk l.toArray).size 0 e - (ByteArray.mk l.toArray).size) (.int .u8 0)) (grownCap w (ByteArray.mk l.toArray).size 0 e) ?_ ?_ (Nat.le_refl _))
  · simp only [execOp, ha.ev hx]
    rw [Sem.run_bind, hrun]
    rfl
  · exact ⟨rfl, rfl, rfl, by rw [Lib.bytesWorld_size]; omega, fun j hj => Lib.bytesWorld_at_old w e _ j hj⟩
  · have hc : Lib.bytesCells w e ⟨l.toArray⟩ = (bytesV l ++ List.replicate (grownCap w (ByteArray.mk l.toArray).size 0 e - (ByteArray.mk l.toArray).size) (Value.int .u8 0)).toArray := by
      apply Array.ext'
      simp [Lib.bytesCells, bytesV]
    have hn := Lib.bytesWorld_at_new w e ⟨l.toArray⟩
    rw [hc] at hn
    exact ⟨e, _, _, hn, by simp⟩
end
theorem Bf.sl {w : World} {b m : Nat} {cs zs : List Value} (h : Bf w b (cs ++ zs)) (hl : cs.length = m) (c : Nat) : Sl w 1 (.slice (some ⟨b, 0, none⟩) m c) m cs :=
  ⟨_, c, rfl, by omega, fun a ha => (by
    cases ha
    have := h.row.take cs.length
    rwa [List.take_left] at this), fun h => by cases h⟩
end Go.Proofs.YtahpiaaffeiadaaGreatDoor
