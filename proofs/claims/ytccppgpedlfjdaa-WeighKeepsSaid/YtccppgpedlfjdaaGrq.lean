/- Which of some weights are drawn, one behind the other: plain. -/
import Derived.Test.YtccppgpedlfjdaaFif
namespace Go.Proofs.Ytccppgpedlfjdaa
open Go Go.RowKit
theorem pre_cons (a : Int) (t : List Int) (k : Nat) : pre (a :: t) (k + 1) = a + pre t k := by simp [pre]
theorem pre_zero (A : List Int) : pre A 0 = 0 := by simp [pre]
theorem pre_nil (k : Nat) : pre [] k = 0 := by simp [pre]
theorem pre_set : ∀ {A : List Int} {i : Nat} {x : Int}, i < A.length → ∀ k, pre (A.set i (A.getD i 0 + x)) k = pre A k + (if i < k then x else 0)
  | [], i, x, h, _ => by simp at h
  | a :: t, 0, x, _, 0 => by simp [pre_zero]
  | a :: t, 0, x, _, k + 1 => by
    rw [List.set_cons_zero, pre_cons, pre_cons, if_pos (Nat.succ_pos k)]
    simp
    omega
  | a :: t, i + 1, x, h, 0 => by simp [pre_zero]
  | a :: t, i + 1, x, h, k + 1 => by
    have ih := pre_set (A := t) (i := i) (x := x) (by simpa using h) k
    rw [List.set_cons_succ, pre_cons, pre_cons]
    have e : (a :: t).getD (i + 1) 0 = t.getD i 0 := by simp
    rw [e, ih]
    by_cases h1 : i < k
    · rw [if_pos h1, if_pos (by omega)]; omega
    · rw [if_neg h1, if_neg (by omega)]; omega
theorem pre_bd {M : Int} : ∀ {A : List Int}, (∀ a ∈ A, 0 ≤ a ∧ a ≤ M) → ∀ k, 0 ≤ pre A k ∧ pre A k ≤ A.length * M
  | [], _, k => by rw [pre_nil]; simp
  | a :: t, h, 0 => by
    rw [pre_zero]
    have h1 := h a (by simp)
    exact ⟨Int.le_refl _, Int.mul_nonneg (Int.natCast_nonneg _) (by omega)⟩
  | a :: t, h, k + 1 => by
    have h1 := h a (by simp)
    have ih := pre_bd (A := t) (fun b hb => h b (List.mem_cons_of_mem _ hb)) k
    rw [pre_cons]
    have e : (((a :: t).length : Nat) : Int) * M = t.length * M + M := by
      rw [List.length_cons]
      have : ((t.length + 1 : Nat) : Int) = (t.length : Int) + 1 := by omega
      rw [this, Int.add_mul, Int.one_mul]
    rw [e]
    omega
theorem pre_step : ∀ {A : List Int} {i : Nat}, i < A.length → pre A (i + 1) = pre A i + A.getD i 0
  | [], _, h => by simp at h
  | a :: t, 0, _ => by rw [pre_cons, pre_zero, pre_zero]; simp
  | a :: t, i + 1, h => by
    rw [pre_cons, pre_cons, pre_step (A := t) (i := i) (by simpa using h)]
    simp
    omega
theorem pre_mono {A : List Int} (h : ∀ a ∈ A, 0 ≤ a) : ∀ {i j : Nat}, i ≤ j → j ≤ A.length → pre A i ≤ pre A j := by
  intro i j hij hj
  induction j with
  | zero => have : i = 0 := by omega
            subst this; exact Int.le_refl _
  | succ j ih =>
    rcases Nat.lt_or_ge i (j + 1) with h1 | h1
    · have h2 := ih (by omega) (by omega)
      rw [pre_step (by omega)]
      have : 0 ≤ A.getD j 0 := by
        have e : A.getD j 0 = A[j] := by simp [List.getD, show j < A.length by omega]
        rw [e]; exact h _ (List.getElem_mem _)
      omega
    · have : i = j + 1 := by omega
      subst this; exact Int.le_refl _
theorem FT.add {A F F' : List Int} {i : Nat} {x : Int} (h : FT A F) (hi : i < A.length) (hl : F'.length = F.length) (hv : ∀ j, j < F.length → F'.getD j 0 = F.getD j 0 + (if cov j i then x else 0)) : FT (A.set i (A.getD i 0 + x)) F' := by
  obtain ⟨h1, h2⟩ := h
  refine ⟨by rw [List.length_set, hl, h1], fun j h0 hj => ?_⟩
  rw [hv j (by omega), h2 j h0 (by omega), pre_set hi, pre_set hi]
  by_cases hc : cov j i
  · rw [if_pos hc, if_pos hc.2, if_neg (by have := hc.1; omega)]; omega
  · rw [if_neg hc]
    by_cases h3 : i < j
    · rw [if_pos h3, if_pos (Nat.lt_of_not_le fun h4 => hc ⟨h4, h3⟩)]; omega
    · rw [if_neg h3, if_neg (by omega)]; omega
theorem pre_reps (n k : Nat) : pre (List.replicate n 0) k = 0 := by simp [pre]
theorem FT.zero (n : Nat) : FT (List.replicate n 0) (List.replicate (n + 1) 0) := by
  refine ⟨by simp, fun j _ hj => ?_⟩
  rw [pre_reps, pre_reps]
  simp [List.getD] at hj ⊢
  rw [List.getElem?_replicate]
  split <;> rfl
theorem FT.bd {A F : List Int} (h : FT A F) (hb : ∀ k, 0 ≤ pre A k ∧ pre A k ≤ 1099511627776) : ∀ j, 0 < j → j < F.length → -1099511627776 ≤ F.getD j 0 ∧ F.getD j 0 ≤ 1099511627776 := fun j h0 hj => by
  have h1 := hb j
  have h2 := hb (j - lb j)
  rw [h.2 j h0 hj]
  omega
/-- Weights, those that were drawn being none. -/
def zer (W : List Int) (D : List Nat) : List Int := (List.range W.length).map fun j => if j ∈ D then 0 else W.getD j 0
theorem zer_len (W : List Int) (D : List Nat) : (zer W D).length = W.length := by simp [zer]
theorem zer_get {W : List Int} {D : List Nat} {j : Nat} (h : j < W.length) : (zer W D).getD j 0 = if j ∈ D then 0 else W.getD j 0 := by
  simp [zer, List.getD, h]
theorem zer_nil (W : List Int) : zer W [] = W := by
  apply List.ext_getElem
  · simp [zer]
  · intro j h1 h2
    simp [zer, h2]
theorem zer_snoc {W : List Int} {D : List Nat} {a : Nat} (h : a < W.length) (ha : a ∉ D) : zer W (D ++ [a]) = (zer W D).set a ((zer W D).getD a 0 + -(W.getD a 0)) := by
  rw [zer_get h, if_neg ha]
  apply List.ext_getElem
  · simp [zer]
  · intro j h1 h2
    simp only [zer, List.length_map, List.length_range] at h1
    rw [List.getElem_set]
    by_cases hj : a = j
    · subst hj
      simp [zer]; omega
    · rw [if_neg hj]
      simp [zer, show ¬ j = a from fun e => hj e.symm]
theorem zer_bd {W : List Int} {D : List Nat} {M : Int} (hM : 0 ≤ M) (h : ∀ a ∈ W, 0 ≤ a ∧ a ≤ M) : ∀ a ∈ zer W D, 0 ≤ a ∧ a ≤ M := fun a ha => by
  obtain ⟨j, hj, rfl⟩ := List.mem_map.1 ha
  have hj := List.mem_range.1 hj
  split
  · omega
  · have e : W.getD j 0 = W[j] := by simp [List.getD, hj]
    rw [e]; exact h _ (List.getElem_mem hj)
def pickI (A : List Int) (r : Int) : Nat := ((List.range A.length).find? fun a => decide (r ≤ pre A (a + 1))).getD 0
theorem pick_is {A : List Int} {r : Int} {a : Nat} (h0 : ∀ x ∈ A, 0 ≤ x) (ha : a < A.length) (h1 : pre A a < r) (h2 : r ≤ pre A (a + 1)) : pickI A r = a := by
  have : (List.range A.length).find? (fun a => decide (r ≤ pre A (a + 1))) = some a := by
    rw [List.find?_range_eq_some]
    refine ⟨by simpa using h2, by simpa using ha, fun j hj => ?_⟩
    have := pre_mono h0 (i := j + 1) (j := a) (by omega) (by omega)
    simp; omega
  unfold pickI
  rw [this]; rfl
def firstN (n : Nat) (D : List Nat) : Nat := ((List.range n).find? fun j => decide (j ∉ D)).getD 0
theorem first_is {n : Nat} {D : List Nat} {f : Nat} (h : f < n) (hf : f ∉ D) (hb : ∀ j, j < f → j ∈ D) : firstN n D = f := by
  have : (List.range n).find? (fun j => decide (j ∉ D)) = some f := by
    rw [List.find?_range_eq_some]
    refine ⟨by simpa using hf, by simpa using h, fun j hj => ?_⟩
    simpa using hb j hj
  unfold firstN
  rw [this]; rfl
theorem full_len : ∀ {n : Nat} {D : List Nat}, (∀ j, j < n → j ∈ D) → n ≤ D.length
  | 0, _, _ => Nat.zero_le _
  | n + 1, D, h => by
    have h1 := h n (Nat.lt_succ_self n)
    have ih := full_len (n := n) (D := D.erase n) fun j hj => (List.mem_erase_of_ne (by omega)).2 (h j (by omega))
    rw [List.length_erase_of_mem h1] at ih
    have := List.length_pos_of_mem h1
    omega
/-- What a lot gives: none, or one of xs of which u were drawn. -/
def drw (o : Option (List Int × Nat)) (k : Nat) (n : Int) : Int := match o with
  | none => 0
  | some (xs, u) => drawVal xs (u + k) n
def nxt (o : Option (List Int × Nat)) (k : Nat) (W : List Int) (D : List Nat) : Nat :=
  if 0 < drw o k (pre (zer W D) W.length + 1) then pickI (zer W D) (drw o k (pre (zer W D) W.length + 1)) else firstN W.length D
def seqB (o : Option (List Int × Nat)) (W : List Int) : Nat → List Nat
  | 0 => []
  | k + 1 => seqB o W k ++ [nxt o k W (seqB o W k)]
theorem drw_bd (o : Option (List Int × Nat)) (k : Nat) {n : Int} (h : 1 ≤ n) : 0 ≤ drw o k n ∧ drw o k n < n := by
  cases o with
  | none => exact ⟨Int.le_refl _, by show (0 : Int) < n; omega⟩
  | some o => exact drawVal_bd _ _ h
theorem seq_len (o : Option (List Int × Nat)) (W : List Int) : ∀ k, (seqB o W k).length = k
  | 0 => rfl
  | k + 1 => by rw [seqB, List.length_append, seq_len o W k]; rfl
end Go.Proofs.Ytccppgpedlfjdaa
