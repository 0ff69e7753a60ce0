/- Without weights an order is the sorted list: plain. -/
import Derived.Test.YtccppgpedlfjdaaWrk41
namespace Go.Proofs.Ytccppgpedlfjdaa
open Go Go.RowKit
theorem drw_one (o : Option (List Int × Nat)) (k : Nat) : drw o k 1 = 0 := by
  have := drw_bd o k (n := 1) (by omega)
  omega
theorem pre_zeros {A : List Int} (h : ∀ a ∈ A, a = 0) (k : Nat) : pre A k = 0 := by
  have := pre_bd (M := 0) (A := A) (fun a ha => by rw [h a ha]; omega) k
  omega
theorem seq_zero {o : Option (List Int × Nat)} {W : List Int} (h : ∀ a ∈ W, a = 0) : ∀ k, k ≤ W.length → seqB o W k = List.range k
  | 0, _ => rfl
  | k + 1, hk => by
    have ih := seq_zero (o := o) h k (by omega)
    have hz : ∀ a ∈ zer W (List.range k), a = 0 := fun a ha => by
      have := zer_bd (W := W) (D := List.range k) (M := 0) (by omega) (fun b hb => by rw [h b hb]; omega) a ha
      omega
    have hn : nxt o k W (List.range k) = k := by
      unfold nxt
      rw [pre_zeros hz, Int.zero_add, drw_one, if_neg (by omega)]
      exact first_is (by omega) (by simp) (fun j hj => by simpa using hj)
    rw [seqB, ih, hn, List.range_succ]
theorem outD_range {Y : List El} : ∀ k, k ≤ Y.length → outD Y (List.range k) = Y.take k
  | 0, _ => by simp [outD]
  | k + 1, hk => by
    have hy : Y[k]? = some Y[k] := List.getElem?_eq_getElem hk
    rw [List.range_succ, outD_snoc hy, outD_range k (by omega), List.take_add_one, hy]
    rfl
theorem run_pos (y : El) (Y : List El) : 1 ≤ runL (y :: Y) ∧ runL (y :: Y) ≤ (y :: Y).length := by
  have e : runL (y :: Y) = ((y :: Y).takeWhile fun z => decide (z.1.pri = y.1.pri)).length := rfl
  rw [e]
  refine ⟨?_, ?_⟩
  · rw [List.takeWhile_cons, if_pos (by simp)]
    simp
  · exact (List.takeWhile_prefix _).length_le
theorem ordG_zero : ∀ (n : Nat) (o : Option (List Int × Nat)) (Y : List El), Y.length ≤ n → (∀ y ∈ Y, y.1.wt = 0) → ordG o n Y = Y
  | 0, o, Y, hn, _ => by
    have : Y = [] := List.eq_nil_of_length_eq_zero (by omega)
    subst this; rfl
  | n + 1, o, [], _, _ => rfl
  | n + 1, o, y :: Y, hn, hw => by
    obtain ⟨h1, h2⟩ := run_pos y Y
    rw [ordG]
    generalize runL (y :: Y) = r at h1 h2
    have hl : ((y :: Y).take r).length = r := by rw [List.length_take]; omega
    have hz : ∀ a ∈ wts ((y :: Y).take r), a = 0 := fun a ha => by
      obtain ⟨z, hz, rfl⟩ := List.mem_map.1 ha
      rw [hw z (List.mem_of_mem_take hz)]
      rfl
    rw [seq_zero hz r (by rw [wts_len, hl]; exact Nat.le_refl _), outD_range r (by omega), ordG_zero n _ ((y :: Y).drop r) (by rw [List.length_drop]; omega) (fun z hz' => hw z (List.mem_of_mem_drop hz')), List.take_of_length_le (by omega), List.take_append_drop]
end Go.Proofs.Ytccppgpedlfjdaa
