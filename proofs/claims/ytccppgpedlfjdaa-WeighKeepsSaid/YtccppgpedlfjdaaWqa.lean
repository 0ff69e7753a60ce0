/- The places drawn are all places, each once: plain. -/
import Derived.Test.YtccppgpedlfjdaaWpq
namespace Go.Proofs.Ytccppgpedlfjdaa
open Go Go.RowKit
theorem cross {A : List Int} {r : Int} (h0 : 0 < r) : ∀ {m : Nat}, r ≤ pre A m → ∃ a, a < m ∧ pre A a < r ∧ r ≤ pre A (a + 1)
  | 0, h => by rw [pre_zero] at h; omega
  | m + 1, h => by
    by_cases h1 : r ≤ pre A m
    · obtain ⟨a, h2, h3⟩ := cross h0 h1
      exact ⟨a, by omega, h3⟩
    · exact ⟨m, Nat.lt_succ_self m, by omega, h⟩
theorem gap (D : List Nat) : ∀ m : Nat, (∀ j, j < m → j ∈ D) ∨ ∃ f, f < m ∧ f ∉ D ∧ ∀ j, j < f → j ∈ D
  | 0 => .inl fun _ h => absurd h (Nat.not_lt_zero _)
  | m + 1 => by
    rcases gap D m with h | ⟨f, h1, h2⟩
    · by_cases hm : m ∈ D
      · exact .inl fun j hj => (Nat.lt_succ_iff_lt_or_eq.1 hj).elim (h j) (fun e => e ▸ hm)
      · exact .inr ⟨m, Nat.lt_succ_self m, hm, h⟩
    · exact .inr ⟨f, by omega, h2⟩
theorem nxt_ok {o : Option (List Int × Nat)} {k : Nat} {W : List Int} {D : List Nat} (hW : ∀ a ∈ W, 0 ≤ a ∧ a ≤ 2147483648) (hD : D.length < W.length) : nxt o k W D < W.length ∧ nxt o k W D ∉ D := by
  have hz := zer_bd (D := D) (by omega) hW
  have hb := pre_bd hz W.length
  have hr := drw_bd o k (n := pre (zer W D) W.length + 1) (by omega)
  unfold nxt
  split
  · rename_i h
    obtain ⟨a, h1, h2, h3⟩ := cross (A := zer W D) h (m := W.length) (by omega)
    have ha : a < (zer W D).length := by rw [zer_len]; exact h1
    rw [pick_is (fun x hx => (hz x hx).1) ha h2 h3]
    refine ⟨h1, fun hm => ?_⟩
    have h4 := pre_step ha
    rw [zer_get h1, if_pos hm] at h4
    omega
  · rcases gap D W.length with h | ⟨f, h1, h2, h3⟩
    · have := full_len h
      omega
    · rw [first_is h1 h2 h3]
      exact ⟨h1, h2⟩
theorem seq_ok {o : Option (List Int × Nat)} {W : List Int} (hW : ∀ a ∈ W, 0 ≤ a ∧ a ≤ 2147483648) : ∀ k, k ≤ W.length → (seqB o W k).Nodup ∧ ∀ d ∈ seqB o W k, d < W.length
  | 0, _ => ⟨List.nodup_nil, fun _ h => by cases h⟩
  | k + 1, hk => by
    obtain ⟨h1, h2⟩ := seq_ok (o := o) hW k (by omega)
    obtain ⟨h3, h4⟩ := nxt_ok (o := o) (k := k) hW (D := seqB o W k) (by rw [seq_len]; omega)
    refine ⟨?_, fun d hd => ?_⟩
    · rw [seqB]
      exact List.nodup_append.2 ⟨h1, by simp, fun a ha b hb => by rw [List.mem_singleton.1 hb]; rintro rfl; exact h4 ha⟩
    · rw [seqB] at hd
      rcases List.mem_append.1 hd with hd | hd
      · exact h2 d hd
      · rw [List.mem_singleton.1 hd]; exact h3
theorem nd_len : ∀ {n : Nat} {D : List Nat}, D.Nodup → (∀ d ∈ D, d < n) → D.length ≤ n
  | 0, D, _, h => by
    cases D with
    | nil => exact Nat.le_refl _
    | cons d D => have := h d (by simp); omega
  | n + 1, D, hn, h => by
    have h1 := nd_len (n := n) (D := D.erase n) (hn.erase n) fun d hd => by
      obtain ⟨h2, h3⟩ := (List.Nodup.mem_erase_iff hn).1 hd
      have := h d h3
      omega
    have h2 : D.length ≤ (D.erase n).length + 1 := by rw [List.length_erase]; split <;> omega
    omega
theorem nd_perm : ∀ {n : Nat} {D : List Nat}, D.Nodup → (∀ d ∈ D, d < n) → D.length = n → D.Perm (List.range n)
  | 0, D, _, _, hl => by rw [List.eq_nil_of_length_eq_zero hl]; exact .nil
  | n + 1, D, hn, h, hl => by
    by_cases hm : n ∈ D
    · have h1 := nd_perm (n := n) (D := D.erase n) (hn.erase n) (fun d hd => by
        obtain ⟨h2, h3⟩ := (List.Nodup.mem_erase_iff hn).1 hd
        have := h d h3
        omega) (by rw [List.length_erase_of_mem hm, hl]; rfl)
      rw [List.range_succ]
      exact (List.perm_cons_erase hm).trans ((h1.cons n).trans (List.perm_append_comm (l₁ := [n])))
    · have := nd_len (n := n) hn fun d hd => by
        have h1 := h d hd
        have : d ≠ n := fun e => hm (e ▸ hd)
        omega
      omega
theorem outD_perm {Y : List El} {D : List Nat} (h1 : D.Nodup) (h2 : ∀ d ∈ D, d < Y.length) (h3 : D.length = Y.length) : (outD Y D).Perm Y := by
  have h := (nd_perm h1 h2 h3).filterMap (fun a => Y[a]?)
  have e : outD Y (List.range Y.length) = Y := by rw [outD_range _ (Nat.le_refl _), List.take_length]
  unfold outD at e ⊢
  rwa [e] at h
theorem ordG_perm : ∀ (n : Nat) (o : Option (List Int × Nat)) (Y : List El), Y.length ≤ n → (ordG o n Y).Perm Y
  | 0, o, Y, hn => by
    rw [List.eq_nil_of_length_eq_zero (show Y.length = 0 by omega)]; exact .nil
  | n + 1, o, [], _ => .nil
  | n + 1, o, y :: Y, hn => by
    obtain ⟨h1, h2⟩ := run_pos y Y
    rw [ordG]
    generalize runL (y :: Y) = r at h1 h2
    have hl : ((y :: Y).take r).length = r := by rw [List.length_take]; omega
    obtain ⟨h3, h4⟩ := seq_ok (o := o) (wts_bd ((y :: Y).take r)) r (by rw [wts_len, hl]; exact Nat.le_refl _)
    rw [wts_len] at h4
    have h5 := outD_perm h3 h4 (by rw [seq_len, hl])
    have h6 := ordG_perm n (shO o r) ((y :: Y).drop r) (by rw [List.length_drop]; omega)
    have h7 := h5.append h6
    rwa [List.take_append_drop] at h7
end Go.Proofs.Ytccppgpedlfjdaa
