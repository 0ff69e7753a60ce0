/- Stable sorting of lists: what a stable merge and an insertion leave. No program. -/
import Derived.Test.YtccppgpedlfjdaaWkm
namespace Go.Proofs.Ytccppgpedlfjdaa
open Go Go.RowKit
section
variable {E : Type} (key : E → Int)
/-- The members of each key stand in the same order. -/
def SameBy (xs ys : List E) : Prop := ∀ k, xs.filter (fun x => decide (key x = k)) = ys.filter (fun x => decide (key x = k))
def Srtd (xs : List E) : Prop := xs.Pairwise (fun x y => key x ≤ key y)
variable {key}
theorem SameBy.refl (xs : List E) : SameBy key xs xs := fun _ => rfl
theorem SameBy.trans {xs ys zs : List E} (h : SameBy key xs ys) (k : SameBy key ys zs) : SameBy key xs zs := fun i => (h i).trans (k i)
theorem SameBy.symm {xs ys : List E} (h : SameBy key xs ys) : SameBy key ys xs := fun i => (h i).symm
theorem SameBy.app {a b c d : List E} (h : SameBy key a b) (k : SameBy key c d) : SameBy key (a ++ c) (b ++ d) := fun i => by
  rw [List.filter_append, List.filter_append, h i, k i]
theorem SameBy.mid {A M N B : List E} (h : SameBy key M N) : SameBy key (A ++ (M ++ B)) (A ++ (N ++ B)) := (SameBy.refl A).app (h.app (SameBy.refl B))
theorem SameBy.mem {xs ys : List E} (h : SameBy key xs ys) {x : E} : x ∈ xs ↔ x ∈ ys := by
  have h1 : x ∈ xs ↔ x ∈ xs.filter (fun y => decide (key y = key x)) := by simp [List.mem_filter]
  have h2 : x ∈ ys ↔ x ∈ ys.filter (fun y => decide (key y = key x)) := by simp [List.mem_filter]
  rw [h1, h2, h (key x)]
theorem filter_none {U : List E} {k : Int} (h : ∀ u ∈ U, key u ≠ k) : U.filter (fun x => decide (key x = k)) = [] := by
  rw [List.filter_eq_nil_iff]
  intro a ha
  simpa using h a ha
/-- Two pieces that have no key in common may change places. -/
theorem SameBy.rot {U V : List E} (h : ∀ u ∈ U, ∀ v ∈ V, key v < key u) : SameBy key (U ++ V) (V ++ U) := fun k => by
  rw [List.filter_append, List.filter_append]
  by_cases hU : ∃ u ∈ U, key u = k
  · obtain ⟨u, hu, rfl⟩ := hU
    have : V.filter (fun x => decide (key x = key u)) = [] := filter_none fun v hv e => by have := h u hu v hv; omega
    rw [this, List.append_nil, List.nil_append]
  · have : U.filter (fun x => decide (key x = k)) = [] := filter_none fun u hu e => hU ⟨u, hu, e⟩
    rw [this, List.append_nil, List.nil_append]
theorem SameBy.len {xs : List E} : ∀ {ys : List E}, SameBy key xs ys → xs.length = ys.length := by
  induction xs with
  | nil =>
    intro ys h
    cases ys with
    | nil => rfl
    | cons y ys =>
      have := (h.mem (x := y)).2 (by simp)
      cases this
  | cons x xs ih =>
    intro ys h
    have hx : x ∈ ys := h.mem.1 (by simp)
    -- the first of x's key in ys is x
    have hk := h (key x)
    rw [List.filter_cons] at hk
    simp only [decide_true, if_true] at hk
    -- strike it
    have key2 : ∀ (zs : List E) (r : List E), zs.filter (fun y => decide (key y = key x)) = x :: r → ∃ A B, zs = A ++ x :: B ∧ (∀ a ∈ A, key a ≠ key x) := by
      intro zs
      induction zs with
      | nil => intro r h; cases h
      | cons z zs ih2 =>
        intro r h
        rw [List.filter_cons] at h
        split at h
        · rename_i hz
          cases h
          exact ⟨[], zs, rfl, fun _ h => by cases h⟩
        · rename_i hz
          obtain ⟨A, B, rfl, h2⟩ := ih2 r h
          exact ⟨z :: A, B, rfl, fun a ha => by
            rcases List.mem_cons.1 ha with rfl | ha
            · simpa using hz
            · exact h2 a ha⟩
    obtain ⟨A, B, rfl, hA⟩ := key2 ys _ hk.symm
    have h' : SameBy key xs (A ++ B) := fun k => by
      have h3 := h k
      rw [List.filter_append, List.filter_cons, List.filter_cons] at h3
      rw [List.filter_append]
      by_cases hkx : key x = k
      · subst hkx
        simp only [decide_true, if_true] at h3
        rw [filter_none hA] at h3 ⊢
        simpa using h3
      · simp only [hkx, decide_false] at h3
        simpa using h3
    have := ih h'
    simp at this ⊢
    omega
theorem Srtd.app {xs ys : List E} (h1 : Srtd key xs) (h2 : Srtd key ys) (h : ∀ x ∈ xs, ∀ y ∈ ys, key x ≤ key y) : Srtd key (xs ++ ys) := List.pairwise_append.2 ⟨h1, h2, h⟩
theorem Srtd.left {xs ys : List E} (h : Srtd key (xs ++ ys)) : Srtd key xs := (List.pairwise_append.1 h).1
theorem Srtd.right {xs ys : List E} (h : Srtd key (xs ++ ys)) : Srtd key ys := (List.pairwise_append.1 h).2.1
theorem Srtd.get {xs : List E} (h : Srtd key xs) {i j : Nat} {x y : E} (hx : xs[i]? = some x) (hy : xs[j]? = some y) (hij : i ≤ j) : key x ≤ key y := by
  obtain ⟨h1, rfl⟩ := List.getElem?_eq_some_iff.1 hx
  obtain ⟨h2, rfl⟩ := List.getElem?_eq_some_iff.1 hy
  rcases Nat.lt_or_eq_of_le hij with h3 | rfl
  · exact List.pairwise_iff_getElem.1 h i j h1 h2 h3
  · exact Int.le_refl _
/-- One insertion: x behind those that are not greater, ahead of the greater ones. -/
theorem insert_done {P1 P2 : List E} {x : E} (h : Srtd key (P1 ++ P2)) (h1 : ∀ p ∈ P2, key x < key p) (h2 : ∀ p ∈ P1, key p ≤ key x) : Srtd key (P1 ++ x :: P2) ∧ SameBy key (P1 ++ P2 ++ [x]) (P1 ++ x :: P2) := by
  refine ⟨?_, ?_⟩
  · have ha := List.pairwise_append.1 h
    refine List.pairwise_append.2 ⟨ha.1, List.pairwise_cons.2 ⟨fun p hp => Int.le_of_lt (h1 p hp), ha.2.1⟩, fun p hp q hq => ?_⟩
    rcases List.mem_cons.1 hq with rfl | hq
    · exact h2 p hp
    · exact ha.2.2 p hp q hq
  · have := SameBy.rot (U := P2) (V := [x]) (fun u hu v hv => by cases List.mem_singleton.1 hv; exact h1 u hu)
    have h3 := (SameBy.refl (key := key) P1).app this
    simpa using h3
/-- Two members change places. -/
theorem swap_set {Q1 Q2 Q3 : List E} {x y : E} {i j : Nat} (hi : i = Q1.length) (hj : j = Q1.length + 1 + Q2.length) :
    ((Q1 ++ x :: (Q2 ++ y :: Q3)).set i y).set j x = Q1 ++ y :: (Q2 ++ x :: Q3) ∧ ((Q1 ++ x :: (Q2 ++ y :: Q3)).set j x).set i y = Q1 ++ y :: (Q2 ++ x :: Q3) := by
  subst hi; subst hj
  have h1 : ∀ z : E, (Q1 ++ x :: (Q2 ++ y :: Q3)).set Q1.length z = Q1 ++ z :: (Q2 ++ y :: Q3) := fun z => by
    rw [List.set_append_right _ _ (Nat.le_refl _), Nat.sub_self]; rfl
  have h2 : ∀ (u z : E), (Q1 ++ u :: (Q2 ++ y :: Q3)).set (Q1.length + 1 + Q2.length) z = Q1 ++ u :: (Q2 ++ z :: Q3) := fun u z => by
    rw [List.set_append_right _ _ (by omega), show Q1.length + 1 + Q2.length - Q1.length = Q2.length + 1 by omega, List.set_cons_succ, List.set_append_right _ _ (Nat.le_refl _), Nat.sub_self]; rfl
  refine ⟨by rw [h1, h2], ?_⟩
  rw [h2, List.set_append_right _ _ (Nat.le_refl _), Nat.sub_self]; rfl
/-- What a merge leaves, of two halves of which none of the first is greater than one of the second. -/
theorem halves {L1 U V R2 Y Z : List E} (hL : Srtd key (L1 ++ U)) (hR : Srtd key (V ++ R2)) (hVU : ∀ u ∈ U, ∀ v ∈ V, key v < key u) (hLR : ∀ x ∈ L1, ∀ y ∈ R2, key x ≤ key y)
    (hY : Srtd key Y) (hZ : Srtd key Z) (sY : SameBy key (L1 ++ V) Y) (sZ : SameBy key (U ++ R2) Z) : Srtd key (Y ++ Z) ∧ SameBy key ((L1 ++ U) ++ (V ++ R2)) (Y ++ Z) := by
  obtain ⟨_, _, hLU⟩ := List.pairwise_append.1 hL
  obtain ⟨_, _, hVR⟩ := List.pairwise_append.1 hR
  refine ⟨hY.app hZ fun x hx y hy => ?_, ?_⟩
  · have hx' := sY.mem.2 hx
    have hy' := sZ.mem.2 hy
    rcases List.mem_append.1 hx' with hx' | hx' <;> rcases List.mem_append.1 hy' with hy' | hy'
    · exact hLU x hx' y hy'
    · exact hLR x hx' y hy'
    · exact Int.le_of_lt (hVU y hy' x hx')
    · exact hVR x hx' y hy'
  · have h1 : SameBy key (L1 ++ (U ++ V) ++ R2) (L1 ++ (V ++ U) ++ R2) := ((SameBy.refl L1).app (SameBy.rot hVU)).app (SameBy.refl R2)
    have h2 : SameBy key ((L1 ++ V) ++ (U ++ R2)) (Y ++ Z) := sY.app sZ
    refine SameBy.trans ?_ h2
    have e1 : (L1 ++ U) ++ (V ++ R2) = L1 ++ (U ++ V) ++ R2 := by simp
    have e2 : (L1 ++ V) ++ (U ++ R2) = L1 ++ (V ++ U) ++ R2 := by simp
    rw [e1, e2]
    exact h1
end
end Go.Proofs.Ytccppgpedlfjdaa
