/- The plain law of SortlistKeeps. -/
import Derived.Test.YtdomaooegpeneaaAdk
namespace Go.Proofs.Ytdomaooegpeneaa
open Go Go.RowKit
/-- What is in order already stays so. -/
theorem ord_filter (ps : List El) (ads : List Adr) {n k : Nat} (hk : k < n) : (ordOf ps ads n).filter (fun a => decide (placeOf ps a = k)) = ads.filter fun a => decide (placeOf ps a = k) := by
  induction n with
  | zero => omega
  | succ n ih =>
    rw [ord_succ, List.filter_append, List.filter_filter]
    by_cases h : k < n
    · rw [ih h]
      have : ads.filter (fun a => decide (placeOf ps a = k) && decide (placeOf ps a = n)) = [] := by
        rw [List.filter_eq_nil_iff]; intro a _; simp; omega
      rw [this, List.append_nil]
    · have hkn : k = n := by omega
      subst hkn
      have : (ordOf ps ads k).filter (fun a => decide (placeOf ps a = k)) = [] := by
        rw [List.filter_eq_nil_iff]
        intro a ha
        unfold ordOf at ha
        obtain ⟨j, hj, hja⟩ := List.mem_flatMap.1 ha
        have h1 := List.mem_range.1 hj
        have h2 := of_decide_eq_true (List.mem_filter.1 hja).2
        simp; omega
      rw [this, List.nil_append]
      apply List.filter_congr
      intro a _; simp
theorem ord_twice (ps : List El) (ads : List Adr) (n : Nat) : ordOf ps (ordOf ps ads n) n = ordOf ps ads n := by
  conv => lhs; unfold ordOf
  conv => rhs; unfold ordOf
  rw [List.flatMap_def, List.flatMap_def]
  congr 1
  apply List.map_congr_left
  intro k hk
  exact ord_filter ps ads (List.mem_range.1 hk)
/-- Without a list all stays as it was. -/
theorem ord_nil (ads : List Adr) : ordOf [] ads 1 = ads := by
  have : List.range 1 = [0] := rfl
  simp [ordOf, this, placeOf]
/-- Each address stands there as often as it stood. -/
theorem ord_count (ps : List El) (ads : List Adr) (b : Adr) : (ordOf ps ads (ps.length + 1)).filter (fun a => decide (a = b)) = ads.filter fun a => decide (a = b) := by
  have hk : placeOf ps b < ps.length + 1 := Nat.lt_succ_of_le (place_le ps b)
  have h := congrArg (List.filter fun a => decide (a = b)) (ord_filter ps ads hk)
  rw [List.filter_filter, List.filter_filter] at h
  have e : (fun a : Adr => decide (a = b) && decide (placeOf ps a = placeOf ps b)) = fun a => decide (a = b) := by
    funext a
    by_cases hc : a = b
    · subst hc; simp
    · simp [hc]
  rwa [e] at h
theorem ord_same_len (ps : List El) (ads : List Adr) {Y : List El} (h : Y.map Prod.fst = ordOf ps ads (ps.length + 1)) (k : SameBy key (ads.map fun a => (a, (placeOf ps a : Int))) Y) : (ordOf ps ads (ps.length + 1)).length = ads.length := by
  rw [← h, List.length_map, ← k.len, List.length_map]
/-- The places rise. -/
theorem ord_rise (ps : List El) (ads : List Adr) : ∀ n, (ordOf ps ads n).Pairwise (fun a b => placeOf ps a ≤ placeOf ps b)
  | 0 => by simp [ordOf]
  | n + 1 => by
    rw [ord_succ, List.pairwise_append]
    refine ⟨ord_rise ps ads n, ?_, ?_⟩
    · apply List.Pairwise.imp_of_mem (R := fun _ _ => True)
      · intro a b ha hb _
        have h1 := of_decide_eq_true (List.mem_filter.1 ha).2
        have h2 := of_decide_eq_true (List.mem_filter.1 hb).2
        omega
      · exact List.pairwise_of_forall (fun _ _ => trivial)
    · intro a ha b hb
      unfold ordOf at ha
      obtain ⟨j, hj, hja⟩ := List.mem_flatMap.1 ha
      have h1 := List.mem_range.1 hj
      have h2 := of_decide_eq_true (List.mem_filter.1 hja).2
      have h3 := of_decide_eq_true (List.mem_filter.1 hb).2
      omega
end Go.Proofs.Ytdomaooegpeneaa
