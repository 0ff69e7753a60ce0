/- What is sorted stably by places is the reference's order. -/
import Derived.Test.YtdomaooegpeneaaAdh
namespace Go.Proofs.Ytdomaooegpeneaa
open Go Go.RowKit
section
variable {E : Type} {key : E → Int}
theorem srt_split : ∀ {Y : List E} {n : Int}, Srtd key Y → (∀ y ∈ Y, key y ≤ n) → Y = Y.filter (fun y => decide (key y < n)) ++ Y.filter (fun y => decide (key y = n))
  | [], _, _, _ => rfl
  | y :: Y, n, h, hn => by
    have hy := hn y (by simp)
    have ih := srt_split (List.pairwise_cons.1 h).2 (fun z hz => hn z (by simp [hz]))
    by_cases hc : key y = n
    · have h1 : ∀ z ∈ Y, key z = n := fun z hz => by
        have := (List.pairwise_cons.1 h).1 z hz
        have := hn z (by simp [hz])
        omega
      have h2 : Y.filter (fun z => decide (key z < n)) = [] := by
        rw [List.filter_eq_nil_iff]; intro z hz; have := h1 z hz; simp; omega
      have h3 : Y.filter (fun z => decide (key z = n)) = Y := by
        rw [List.filter_eq_self]; intro z hz; simpa using h1 z hz
      rw [List.filter_cons, List.filter_cons, if_neg (by simp; omega), if_pos (by simpa using hc), h2, h3]; rfl
    · rw [List.filter_cons, List.filter_cons, if_pos (by simp; omega), if_neg (by simpa using hc), List.cons_append, ← ih]
theorem srt_flat : ∀ (n : Nat) {Y : List E}, Srtd key Y → (∀ y ∈ Y, 0 ≤ key y ∧ key y < n) → Y = (List.range n).flatMap fun k : Nat => Y.filter fun y => decide (key y = (k : Int))
  | 0, [], _, _ => rfl
  | 0, y :: Y, _, hn => by have := hn y (by simp); omega
  | n + 1, Y, h, hn => by
    have h1 := srt_split (n := n) h (fun y hy => by have := hn y hy; omega)
    have h2 : Srtd key (Y.filter fun y => decide (key y < (n : Int))) := h.filter _
    have ih := srt_flat n h2 (fun y hy => by
      have := List.mem_filter.1 hy
      have h3 := hn y this.1
      have h4 := of_decide_eq_true this.2
      omega)
    have h5 : ∀ k ∈ List.range n, (Y.filter fun y => decide (key y < (n : Int))).filter (fun y => decide (key y = (k : Int))) = Y.filter fun y => decide (key y = (k : Int)) := fun k hk => by
      have := List.mem_range.1 hk
      rw [List.filter_filter]
      apply List.filter_congr
      intro y _
      by_cases hc : key y = (k : Int)
      · simp [hc]; omega
      · simp [hc]
    rw [List.range_succ, List.flatMap_append, List.flatMap_cons, List.flatMap_nil, List.append_nil]
    conv => lhs; rw [h1]
    congr 1
    conv => lhs; rw [ih]
    rw [List.flatMap_def, List.flatMap_def, List.map_congr_left h5]
end
theorem ord_of {ps : List El} {ads : List Adr} {Y : List El} (h : Srtd key Y) (k : SameBy key (ads.map fun a => (a, (placeOf ps a : Int))) Y) : Y.map Prod.fst = ordOf ps ads (ps.length + 1) := by
  have hm : ∀ y ∈ Y, ∃ a ∈ ads, y = (a, (placeOf ps a : Int)) := fun y hy => by
    have := k.mem.2 hy
    obtain ⟨a, ha, he⟩ := List.mem_map.1 this
    exact ⟨a, ha, he.symm⟩
  have h1 := srt_flat (key := key) (ps.length + 1) h (fun y hy => by
    obtain ⟨a, _, rfl⟩ := hm y hy
    have := place_le ps a
    show 0 ≤ (placeOf ps a : Int) ∧ (placeOf ps a : Int) < _
    omega)
  conv => lhs; rw [h1]
  unfold ordOf
  rw [List.map_flatMap, List.flatMap_def, List.flatMap_def]
  congr 1
  apply List.map_congr_left
  intro i _
  rw [← k i, List.filter_map, List.map_map]
  have e1 : (Prod.fst ∘ fun a : Adr => ((a, (placeOf ps a : Int)) : El)) = id := rfl
  rw [e1, List.map_id]
  apply List.filter_congr
  intro a _
  show decide ((placeOf ps a : Int) = (i : Int)) = _
  rw [decide_eq_decide]
  omega
end Go.Proofs.Ytdomaooegpeneaa
