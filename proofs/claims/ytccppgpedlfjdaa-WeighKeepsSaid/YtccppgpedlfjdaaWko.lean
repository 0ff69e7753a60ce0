/- Rules: regions that draw their order, in which one block is written by calls, and the reads look elsewhere: the reads are taken first. -/
import Derived.Test.YtccppgpedlfjdaaWku
namespace Go.Proofs.Ytccppgpedlfjdaa
open Go Go.RowKit
/-- What is left of such a region, from a world w on: what comes ahead of number z writes block b alone. -/
structure SegB (P : Program) (n : Nat) (ops : Array Oper) (Q : Exit → Act → World → Prop) (b z fuel : Nat) (listed : Array Bool) (fr : Fr) (w : World) : Prop where
  out : ∀ a, Fr.Of fr n a → wpAnyG P .any ops (NoPanic Q) (Wr b w) z fuel listed a w
def BPost (P : Program) (ops : Array Oper) (Q : Exit → Act → World → Prop) (b z fuel : Nat) (listed : Array Bool) (i : Nat) (w : World) : Exit → Act → World → Prop := fun e a' w' =>
  e = .normal ∧ if i < z then Wr b w w' ∧ wpAnyG P .any ops (NoPanic Q) (Wr b w') z fuel listed a' w' else wpAny P .any ops (NoPanic Q) fuel listed a' w'
section
variable {P : Program} {n : Nat} {ops : Array Oper} {Q : Exit → Act → World → Prop} {b z fuel : Nat} {listed : Array Bool} {fr : Fr} {w : World}
theorem Cd.heldB (b z : Nat) {id : Nat} {l : List Oper} (hm : P.follows .mixedOrders = true) (h : ∀ w1, Ext w w1 → SegB P n l.toArray Q b z l.length (Array.replicate l.length false) fr w1) : Cd P n Q (.region id l.toArray true) fr w := .mk fun _ ha =>
  wp_region_noPanic (wp_region_any hm (wpAny_of_G _ _ _ _ (by simpa using (h w.drew (Ext.drew w)).out _ ha)))
theorem SegB.take (i : Nat) {d : Nat} {op : Op} {T : TypeId} {pos : String} {aft : Array Edge} {g : Option (Nat × Bool)} {v : Value}
    (hi : ops[i]? = some ⟨some d, op, T, pos, aft, g⟩) (hs : Region.noSelect ops = true) (hf : Region.free .any ops listed i = true) (hr : (Region.ready .any ops listed).contains i = true) (hz : Nat.blt i z = true) (ht : tailWaits .any ops z i = true)
    (hg : gd ops fr g = some true) (hd : Nat.blt d n = true) (hy : ∀ w', Wr b w w' → Yd P n op T fr w' v w')
    (k : SegB P n ops Q b z fuel (listed.setIfInBounds i true) ((d, v) :: fr) w) : SegB P n ops Q b z (fuel + 1) listed fr w := .mk fun a ha =>
  wpAnyG_first hi (Nat.le_of_ble_eq_true hz) ht (Region.noSelect_spec hs) (fun _ _ _ h => h) fuel listed a w (Region.free_spec hi hf) (by simpa using hr)
    (.inl ⟨gd_wanted ha (o := ⟨some d, op, T, pos, aft, g⟩) hg, fun w' hw' => (hy w' hw').out a ha _ _ _ _⟩) (Ext.wr (Ext.refl w) b) (k.out _ (ha.put hd _))
theorem SegB.oneSeg (i : Nat) {o : Oper} (hi : ops[i]? = some o) (hr : Region.ready .any ops listed = [i]) (h : Seg P n ops (BPost P ops Q b z fuel (listed.setIfInBounds i true) i w) [o] fr w) : SegB P n ops Q b z (fuel + 1) listed fr w := .mk fun a ha => by
  refine ⟨fun h0 => (by rw [h0] at hr; cases hr), fun j hj => ?_⟩
  rw [hr] at hj
  obtain rfl : j = i := by simpa using hj
  refine wpOp_of_seg hi (fun e a' w' hh => ⟨hh.1, ?_⟩) h ha
  have h2 := hh.2
  by_cases hz : j < z
  · rw [if_pos hz] at h2 ⊢
    exact ⟨h2.1, wpAnyG_mono (fun w'' h3 => h2.1.trans h3) _ _ _ _ h2.2⟩
  · rw [if_neg hz] at h2 ⊢; exact h2
/-- Back in the region, behind an operation that wrote that block alone. -/
theorem SegB.back {i : Nat} {w' : World} (hz : Nat.blt i z = true) (hE : Wr b w w') (h : SegB P n ops Q b z fuel listed fr w') : Seg P n ops (BPost P ops Q b z fuel listed i w) [] fr w' :=
  Seg.nil (.mk fun a ha => ⟨rfl, by rw [if_pos (show i < z from Nat.le_of_ble_eq_true hz)]; exact ⟨hE, h.out a ha⟩⟩)
/-- .. behind the first one of the end. -/
theorem SegB.end_ {i : Nat} {w' : World} (hz : Nat.ble z i = true) (h : SegA P n ops Q fuel listed fr w') : Seg P n ops (BPost P ops Q b z fuel listed i w) [] fr w' :=
  Seg.nil (.mk fun a ha => ⟨rfl, by rw [if_neg (show ¬ i < z from Nat.not_lt.2 (Nat.le_of_ble_eq_true hz))]; exact h.out a ha⟩)
theorem SegB.done (hr : Region.ready .any ops listed = []) (h : At n Q .normal fr w) : SegB P n ops Q b z fuel listed fr w := .mk fun a ha => by
  cases fuel with
  | zero => exact ⟨hr, h.out a ha⟩
  | succ f => exact ⟨fun _ => h.out a ha, by rw [hr]; simp⟩
end
end Go.Proofs.Ytccppgpedlfjdaa
