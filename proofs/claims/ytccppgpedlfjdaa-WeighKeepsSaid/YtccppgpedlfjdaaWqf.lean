/- The first one of an order is that on which the draw falls: plain. -/
import Derived.Test.YtccppgpedlfjdaaWqe
namespace Go.Proofs.Ytccppgpedlfjdaa
open Go Go.RowKit
theorem wpick_at {W : List Int} {r : Int} {a : Nat} (ha : a < W.length) (h1 : ∀ j, j < a → ¬ r ≤ hsum W (j + 1)) (h2 : r ≤ hsum W (a + 1)) : wpick W r = a := by
  have key : ∀ m i, i + m = a → wpickF W r i (hsum W i) (W.drop i) = a := by
    intro m
    induction m with
    | zero =>
      intro i hi
      have hia : i = a := by omega
      subst hia
      have hdr : W.drop i = W.getD i 0 :: W.drop (i + 1) := by
        rw [List.drop_eq_getElem_cons ha]; simp [List.getD, ha]
      rw [hdr, wpickF, ← hsum_step ha, if_pos h2]
    | succ m ih =>
      intro i hi
      have hil : i < W.length := by omega
      have hdr : W.drop i = W.getD i 0 :: W.drop (i + 1) := by
        rw [List.drop_eq_getElem_cons hil]; simp [List.getD, hil]
      rw [hdr, wpickF, ← hsum_step hil, if_neg (h1 i (by omega))]
      exact ih (i + 1) (by omega)
  have h := key a 0 (by omega)
  rw [List.drop_zero] at h
  exact h
theorem nxt_pick {o : Option (List Int × Nat)} {V : List Int} (hV : 0 < V.length) : wpick V (drw o 0 (hsum V V.length + 1)) = (nxt o 0 (V.map heldI) [] : Nat) := by
  have hb : ∀ a ∈ V.map heldI, 0 ≤ a ∧ a ≤ 2147483648 := fun a ha => by
    obtain ⟨x, _, rfl⟩ := List.mem_map.1 ha
    exact heldI_bd x
  have hn := pre_bd hb V.length
  have hr := drw_bd o 0 (n := hsum V V.length + 1) (by unfold hsum; omega)
  unfold nxt
  rw [zer_nil, List.length_map]
  have e : pre (V.map heldI) V.length = hsum V V.length := rfl
  rw [e]
  generalize drw o 0 (hsum V V.length + 1) = d at hr
  split
  · rename_i hd
    obtain ⟨a, h1, h2, h3⟩ := cross (A := V.map heldI) hd (m := V.length) (by rw [e]; omega)
    rw [pick_is (fun x hx => (hb x hx).1) (by rw [List.length_map]; exact h1) h2 h3]
    refine wpick_at h1 (fun j hj hle => ?_) h3
    have h4 := pre_mono (A := V.map heldI) (fun x hx => (hb x hx).1) (i := j + 1) (j := a) (by omega) (by rw [List.length_map]; omega)
    unfold hsum at hle
    omega
  · rename_i hd
    have h0 := pre_bd hb 1
    rw [first_is (n := V.length) (D := []) (f := 0) hV (by simp) (fun j hj => absurd hj (Nat.not_lt_zero _))]
    exact wpick_at hV (fun j hj => absurd hj (Nat.not_lt_zero _)) (by show d ≤ pre (V.map heldI) 1; omega)
theorem seq_head {o : Option (List Int × Nat)} {W : List Int} : ∀ k, 1 ≤ k → ∃ t, seqB o W k = nxt o 0 W [] :: t
  | 1, _ => ⟨[], rfl⟩
  | k + 2, _ => by
    obtain ⟨t, h⟩ := seq_head (o := o) (W := W) (k + 1) (by omega)
    exact ⟨t ++ [nxt o (k + 1) W (seqB o W (k + 1))], by rw [seqB, h]; rfl⟩
/-- The first one. -/
theorem ordG_head {o : Option (List Int × Nat)} {l : List El} {y : El} {Y : List El} (hS : Srtd key (y :: Y)) (hs : SameBy key l (y :: Y)) :
    (ordG o (y :: Y).length (y :: Y))[0]? = (firstL l y.1.pri)[nxt o 0 (wts (firstL l y.1.pri)) []]? := by
  obtain ⟨h1, h2⟩ := run_pos y Y
  have hg := head_group hS hs
  have hl : ((y :: Y).take (runL (y :: Y))).length = runL (y :: Y) := by rw [List.length_take]; omega
  show (ordG o (Y.length + 1) (y :: Y))[0]? = _
  rw [ordG, ← hg]
  generalize hG : (y :: Y).take (runL (y :: Y)) = G at hl
  obtain ⟨t, ht⟩ := seq_head (o := o) (W := wts G) (runL (y :: Y)) h1
  have hn := nxt_ok (o := o) (k := 0) (D := []) (wts_bd G) (by rw [wts_len, hl]; exact h1)
  have hlt : nxt o 0 (wts G) [] < G.length := by have := hn.1; rwa [wts_len] at this
  have he : G[nxt o 0 (wts G) []]? = some G[nxt o 0 (wts G) []] := List.getElem?_eq_getElem hlt
  rw [ht]
  have e2 : outD G (nxt o 0 (wts G) [] :: t) = G[nxt o 0 (wts G) []] :: outD G t := by
    unfold outD
    rw [List.filterMap_cons, he]
  rw [e2, he]
  rfl
end Go.Proofs.Ytccppgpedlfjdaa
