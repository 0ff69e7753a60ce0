/- Drawn regions in which one of two operations comes next. -/
import Derived.Test.YtccppgpedlfjdaaWku
namespace Go.Proofs.Ytccppgpedlfjdaa
open Go Go.RowKit
variable {P : Program} {n : Nat} {ops : Array Oper} {Q : Exit → Act → World → Prop} {z fuel : Nat} {listed : Array Bool} {fr : Fr} {w : World}
theorem SegG.twoSeg (i j : Nat) {o o' : Oper} (hi : ops[i]? = some o) (hj : ops[j]? = some o') (hr : Region.ready .any ops listed = [i, j])
    (h : Seg P n ops (GPost P ops Q z fuel (listed.setIfInBounds i true) i w) [o] fr w) (h' : Seg P n ops (GPost P ops Q z fuel (listed.setIfInBounds j true) j w) [o'] fr w) : SegG P n ops Q z (fuel + 1) listed fr w := .mk fun a ha => by
  have one : ∀ (i : Nat) (o : Oper), ops[i]? = some o → Seg P n ops (GPost P ops Q z fuel (listed.setIfInBounds i true) i w) [o] fr w →
      wpOp P ops (NoPanic Q) i (fun a' w' => if i < z then Ext w w' ∧ wpAnyG P .any ops (NoPanic Q) (Ext w) z fuel (listed.setIfInBounds i true) a' w' else wpAny P .any ops (NoPanic Q) fuel (listed.setIfInBounds i true) a' w') a w := fun i o hi h => by
    refine wpOp_of_seg hi (fun e a' w' hh => ⟨hh.1, ?_⟩) h ha
    have h2 := hh.2
    by_cases hz : i < z
    · rw [if_pos hz] at h2 ⊢
      exact ⟨h2.1, wpAnyG_mono (fun w'' h3 => h2.1.trans h3) _ _ _ _ h2.2⟩
    · rw [if_neg hz] at h2 ⊢; exact h2
  refine ⟨fun h0 => (by rw [h0] at hr; cases hr), fun k hk => ?_⟩
  rw [hr] at hk
  rcases (by simpa using hk : k = i ∨ k = j) with rfl | rfl
  · exact one _ _ hi h
  · exact one _ _ hj h'
end Go.Proofs.Ytccppgpedlfjdaa
