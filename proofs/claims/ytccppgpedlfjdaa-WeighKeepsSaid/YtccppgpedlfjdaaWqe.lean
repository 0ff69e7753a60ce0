/- The first ones of an order: plain. -/
import Derived.Test.YtccppgpedlfjdaaWqd
namespace Go.Proofs.Ytccppgpedlfjdaa
open Go Go.RowKit
section
variable {E : Type} {key : E → Int}
/-- Lists that agree by keys count alike. -/
theorem SameBy.count (p : E → Bool) : ∀ {xs ys : List E}, SameBy key xs ys → xs.countP p = ys.countP p
  | [], ys, h => by rw [(List.eq_nil_of_length_eq_zero h.len.symm)]
  | x :: xs, ys, h => by
    have hx : x ∈ ys := h.mem.1 (by simp)
    have hs := h (key x)
    rw [List.filter_cons, if_pos (by simp)] at hs
    obtain ⟨A, B, hAB, hA⟩ : ∃ A B, ys = A ++ x :: B ∧ ∀ a ∈ A, key a ≠ key x := by
      clear hx h
      induction ys with
      | nil => cases hs
      | cons y ys ih =>
        rw [List.filter_cons] at hs
        by_cases hy : key y = key x
        · rw [if_pos (by simpa using hy)] at hs
          obtain rfl := (List.cons.inj hs).1
          exact ⟨[], ys, rfl, fun _ h => by cases h⟩
        · rw [if_neg (by simpa using hy)] at hs
          obtain ⟨A, B, e, hA⟩ := ih hs
          exact ⟨y :: A, B, by rw [e]; rfl, fun a ha => (List.mem_cons.1 ha).elim (fun e => e ▸ hy) (hA a)⟩
    have h2 : SameBy key xs (A ++ B) := fun k => by
      have h3 := h k
      rw [hAB, List.filter_cons, List.filter_append, List.filter_cons] at h3
      rw [List.filter_append]
      by_cases hk : key x = k
      · rw [if_pos (by simpa using hk), if_pos (by simpa using hk)] at h3
        have h4 : A.filter (fun a => decide (key a = k)) = [] := by
          rw [List.filter_eq_nil_iff]
          intro a ha
          have := hA a ha
          simp [← hk, this]
        rw [h4] at h3 ⊢
        exact (List.cons.inj h3).2
      · rw [if_neg (by simpa using hk), if_neg (by simpa using hk)] at h3
        exact h3
    have ih := SameBy.count p h2
    rw [hAB, List.countP_cons, List.countP_append, List.countP_cons, ih, List.countP_append]
    omega
end
theorem drop_head {E : Type} {p : E → Bool} : ∀ {l : List E} {z : E} {r : List E}, l.drop (l.takeWhile p).length = z :: r → p z = false
  | [], _, _, h => by simp at h
  | x :: l, z, r, h => by
    by_cases hp : p x = true
    · rw [List.takeWhile_cons, if_pos hp, List.length_cons, List.drop_succ_cons] at h
      exact drop_head h
    · rw [List.takeWhile_cons, if_neg hp] at h
      cases h
      simpa using hp
/-- Those of a priority, those of no weight ahead. -/
def firstL (l : List El) (p : Int) : List El := l.filter (fun x => decide (key x = 2 * p)) ++ l.filter (fun x => decide (key x = 2 * p + 1))
theorem head_group {l : List El} {y : El} {Y : List El} (hS : Srtd key (y :: Y)) (hs : SameBy key l (y :: Y)) : (y :: Y).take (runL (y :: Y)) = firstL l y.1.pri := by
  have hp := run_pri y Y
  have hdrop : ∀ z ∈ (y :: Y).drop (runL (y :: Y)), y.1.pri < z.1.pri := fun z hz => by
    have e : runL (y :: Y) = ((y :: Y).takeWhile fun z => decide (z.1.pri = y.1.pri)).length := rfl
    cases hd : (y :: Y).drop (runL (y :: Y)) with
    | nil => rw [hd] at hz; cases hz
    | cons h r =>
      have h1 : ¬ h.1.pri = y.1.pri := of_decide_eq_false (drop_head (p := fun z : El => decide (z.1.pri = y.1.pri)) (l := y :: Y) (z := h) (r := r) (by rw [← e]; exact hd))
      have hhm : h ∈ y :: Y := List.mem_of_mem_drop (by rw [hd]; simp)
      have h2 : y.1.pri ≤ h.1.pri := by
        rcases List.mem_cons.1 hhm with e2 | e2
        · rw [e2]; exact Int.le_refl _
        · exact key_pri ((List.pairwise_cons.1 hS).1 h e2)
      have h3 : Srtd key (h :: r) := by rw [← hd]; exact List.Pairwise.sublist (List.drop_sublist _ _) hS
      rw [hd] at hz
      rcases List.mem_cons.1 hz with e2 | e2
      · rw [e2]; omega
      · have := key_pri ((List.pairwise_cons.1 h3).1 z e2)
        omega
  have hk : ∀ x : El, key x = 2 * x.1.pri ∨ key x = 2 * x.1.pri + 1 := fun x => by
    have h2 : 0 ≤ min (heldI x.1.wt) 1 ∧ min (heldI x.1.wt) 1 ≤ 1 := by unfold heldI; omega
    unfold key
    omega
  have hG : Srtd key ((y :: Y).take (runL (y :: Y))) := List.Pairwise.sublist (List.take_sublist _ _) hS
  have h1 := hs (2 * y.1.pri)
  have h2 := hs (2 * y.1.pri + 1)
  unfold firstL
  rw [h1, h2]
  have happ : ∀ k : Int, k ≤ 2 * y.1.pri + 1 → (y :: Y).filter (fun x => decide (key x = k)) = ((y :: Y).take (runL (y :: Y))).filter (fun x => decide (key x = k)) := fun k hkk => by
    conv => lhs; rw [← List.take_append_drop (runL (y :: Y)) (y :: Y)]
    rw [List.filter_append]
    have h5 : ((y :: Y).drop (runL (y :: Y))).filter (fun x => decide (key x = k)) = [] := by
      rw [List.filter_eq_nil_iff]
      intro z hz
      have h6 := hdrop z hz
      have h7 := hk z
      simp
      omega
    rw [h5, List.append_nil]
  rw [happ _ (by omega), happ _ (by omega)]
  generalize (y :: Y).take (runL (y :: Y)) = G at hG hp
  have h8 := srt_split (key := key) (n := 2 * y.1.pri + 1) hG (fun x hx => by have := hk x; have := hp x hx; omega)
  conv => lhs; rw [h8]
  congr 1
  apply List.filter_congr
  intro x hx
  have h9 := hk x
  have h10 := hp x hx
  rw [decide_eq_decide]
  omega
end Go.Proofs.Ytccppgpedlfjdaa
