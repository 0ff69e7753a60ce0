/- An order of targets: priorities rise: plain. -/
import Derived.Test.YtccppgpedlfjdaaWqc
namespace Go.Proofs.Ytccppgpedlfjdaa
open Go Go.RowKit
theorem take_while {E : Type} {p : E → Bool} : ∀ (l : List E), l.take (l.takeWhile p).length = l.takeWhile p ∧ ∀ x ∈ l.takeWhile p, p x = true
  | [] => ⟨rfl, fun _ h => by cases h⟩
  | x :: l => by
    obtain ⟨h1, h2⟩ := take_while (p := p) l
    by_cases hp : p x = true
    · rw [List.takeWhile_cons, if_pos hp]
      exact ⟨by rw [List.length_cons, List.take_succ_cons, h1], fun z hz => (List.mem_cons.1 hz).elim (fun e => e ▸ hp) (h2 z)⟩
    · rw [List.takeWhile_cons, if_neg hp]
      exact ⟨rfl, fun _ h => by cases h⟩
theorem run_pri (y : El) (Y : List El) : ∀ x ∈ (y :: Y).take (runL (y :: Y)), x.1.pri = y.1.pri := fun x hx => by
  have e : runL (y :: Y) = ((y :: Y).takeWhile fun z => decide (z.1.pri = y.1.pri)).length := rfl
  rw [e, (take_while _).1] at hx
  exact of_decide_eq_true ((take_while _).2 x hx)
theorem key_pri {x y : El} (h : key x ≤ key y) : x.1.pri ≤ y.1.pri := by
  have h1 : 0 ≤ min (heldI x.1.wt) 1 ∧ min (heldI x.1.wt) 1 ≤ 1 := by unfold heldI; omega
  have h2 : 0 ≤ min (heldI y.1.wt) 1 ∧ min (heldI y.1.wt) 1 ≤ 1 := by unfold heldI; omega
  unfold key at h
  omega
theorem ordG_rise : ∀ (n : Nat) (o : Option (List Int × Nat)) (Y : List El), Y.length ≤ n → Srtd key Y → (ordG o n Y).Pairwise fun x z => x.1.pri ≤ z.1.pri
  | 0, o, Y, _, _ => .nil
  | n + 1, o, [], _, _ => .nil
  | n + 1, o, y :: Y, hn, hS => by
    obtain ⟨h1, h2⟩ := run_pos y Y
    have hp := run_pri y Y
    have hge : ∀ x ∈ y :: Y, y.1.pri ≤ x.1.pri := fun x hx => by
      rcases List.mem_cons.1 hx with e | e
      · rw [e]; exact Int.le_refl _
      · exact key_pri ((List.pairwise_cons.1 hS).1 x e)
    rw [ordG]
    generalize runL (y :: Y) = r at h1 h2 hp
    have hl : ((y :: Y).take r).length = r := by rw [List.length_take]; omega
    obtain ⟨h3, h4⟩ := seq_ok (o := o) (wts_bd ((y :: Y).take r)) r (by rw [wts_len, hl]; exact Nat.le_refl _)
    rw [wts_len] at h4
    have h5 := outD_perm h3 h4 (by rw [seq_len, hl])
    have h6 := ordG_perm n (shO o r) ((y :: Y).drop r) (by rw [List.length_drop]; omega)
    have hd : Srtd key ((y :: Y).drop r) := List.Pairwise.sublist (List.drop_sublist _ _) hS
    have h7 := ordG_rise n (shO o r) ((y :: Y).drop r) (by rw [List.length_drop]; omega) hd
    have hg : ∀ x ∈ outD ((y :: Y).take r) (seqB o (wts ((y :: Y).take r)) r), x.1.pri = y.1.pri := fun x hx => hp x (h5.mem_iff.1 hx)
    refine List.pairwise_append.2 ⟨List.pairwise_of_forall_mem_list fun x hx z hz => by rw [hg x hx, hg z hz]; exact Int.le_refl _, h7, fun x hx z hz => ?_⟩
    rw [hg x hx]
    exact hge z (List.mem_of_mem_drop (h6.mem_iff.1 hz))
end Go.Proofs.Ytccppgpedlfjdaa
