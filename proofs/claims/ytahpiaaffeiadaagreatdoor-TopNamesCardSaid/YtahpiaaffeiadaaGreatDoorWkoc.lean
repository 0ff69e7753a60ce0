/- Rules: regions that draw their order, in which what is done keeps a class of worlds: the reads are taken first. -/
import Derived.Test.YtahpiaaffeiadaaGreatDoorWkj
namespace Go.Proofs.YtahpiaaffeiadaaGreatDoor
open Go Go.RowKit
/-- What is left of such a region: what comes ahead of number z keeps the class C. -/
structure SegC (P : Program) (n : Fm) (ops : Array Oper) (Q : Exit → Act → World → Prop) (C : World → Prop) (z fuel : Nat) (listed : Array Bool) (fr : Fr) (w : World) : Prop where
  out : ∀ a, Fr.Of fr n a → wpAnyG P .any ops (NoPanic Q) C z fuel listed a w
def CPost (P : Program) (ops : Array Oper) (Q : Exit → Act → World → Prop) (C : World → Prop) (z fuel : Nat) (listed : Array Bool) (i : Nat) : Exit → Act → World → Prop := fun e a' w' =>
  e = .normal ∧ if i < z then C w' ∧ wpAnyG P .any ops (NoPanic Q) C z fuel listed a' w' else wpAny P .any ops (NoPanic Q) fuel listed a' w'
section
variable {P : Program} {n : Fm} {ops : Array Oper} {Q : Exit → Act → World → Prop} {C : World → Prop} {z fuel : Nat} {listed : Array Bool} {fr : Fr} {w : World}
theorem Cd.heldC (C : World → Prop) (z : Nat) {id : Nat} {l : List Oper} (hm : P.follows .mixedOrders = true) (h : ∀ w1, Ext w w1 → SegC P n l.toArray Q C z l.length (Array.replicate l.length false) fr w1) : Cd P n Q (.region id l.toArray true) fr w := .mk fun _ ha =>
  wp_region_noPanic (wp_region_any hm (wpAny_of_G _ _ _ _ (by simpa using (h w.drew (Ext.drew w)).out _ ha)))
theorem SegC.take (i : Nat) {d : Nat} {op : Op} {T : TypeId} {pos : String} {aft : Array Edge} {g : Option (Nat × Bool)} {v : Value}
    (hi : ops[i]? = some ⟨some d, op, T, pos, aft, g⟩) (hs : Region.noSelect ops = true) (hf : Region.free .any ops listed i = true) (hr : (Region.ready .any ops listed).contains i = true) (hz : Nat.blt i z = true) (ht : tailWaits .any ops z i = true)
    (hg : gd ops fr g = some true) (hd : Nat.blt d n.n = true) (hC : C w) (hy : ∀ w', C w' → Yd P n op T fr w' v w')
    (k : SegC P n ops Q C z fuel (listed.setIfInBounds i true) ((d, v) :: fr) w) : SegC P n ops Q C z (fuel + 1) listed fr w := .mk fun a ha =>
  wpAnyG_first hi (Nat.le_of_ble_eq_true hz) ht (Region.noSelect_spec hs) (fun _ _ _ h => h) fuel listed a w (Region.free_spec hi hf) (by simpa using hr)
    (.inl ⟨gd_wanted ha (o := ⟨some d, op, T, pos, aft, g⟩) hg, fun w' hw' => (hy w' hw').out a ha _ _ _ _⟩) hC (k.out _ (ha.put hd _))
theorem SegC.skip (i : Nat) {d : Nat} {op : Op} {T : TypeId} {pos : String} {aft : Array Edge} {g : Option (Nat × Bool)}
    (hi : ops[i]? = some ⟨some d, op, T, pos, aft, g⟩) (hs : Region.noSelect ops = true) (hf : Region.free .any ops listed i = true) (hr : (Region.ready .any ops listed).contains i = true) (hz : Nat.blt i z = true) (ht : tailWaits .any ops z i = true)
    (hg : gd ops fr g = some false) (hd : Nat.blt d n.n = true) (hC : C w)
    (k : SegC P n ops Q C z fuel (listed.setIfInBounds i true) ((d, undef) :: fr) w) : SegC P n ops Q C z (fuel + 1) listed fr w := .mk fun a ha =>
  wpAnyG_first hi (Nat.le_of_ble_eq_true hz) ht (Region.noSelect_spec hs) (fun _ _ _ h => h) fuel listed a w (Region.free_spec hi hf) (by simpa using hr)
    (.inr ⟨gd_wanted ha (o := ⟨some d, op, T, pos, aft, g⟩) hg, rfl⟩) hC (k.out _ (ha.put hd _))
theorem SegC.oneSeg (i : Nat) {o : Oper} (hi : ops[i]? = some o) (hr : Region.ready .any ops listed = [i]) (h : Seg P n ops (CPost P ops Q C z fuel (listed.setIfInBounds i true) i) [o] fr w) : SegC P n ops Q C z (fuel + 1) listed fr w := .mk fun a ha => by
  refine ⟨fun h0 => (by rw [h0] at hr; cases hr), fun j hj => ?_⟩
  rw [hr] at hj
  obtain rfl : j = i := by simpa using hj
  exact wpOp_of_seg hi (fun e a' w' hh => ⟨hh.1, hh.2⟩) h ha
theorem SegC.twoSeg (i i' : Nat) {o o' : Oper} (hi : ops[i]? = some o) (hi' : ops[i']? = some o') (hr : Region.ready .any ops listed = [i, i']) (h : Seg P n ops (CPost P ops Q C z fuel (listed.setIfInBounds i true) i) [o] fr w)
    (h' : Seg P n ops (CPost P ops Q C z fuel (listed.setIfInBounds i' true) i') [o'] fr w) : SegC P n ops Q C z (fuel + 1) listed fr w := .mk fun a ha => by
  refine ⟨fun h0 => (by rw [h0] at hr; cases hr), fun j hj => ?_⟩
  rw [hr] at hj
  have : j = i ∨ j = i' := by simpa using hj
  rcases this with rfl | rfl
  · exact wpOp_of_seg hi (fun e a' w' hh => ⟨hh.1, hh.2⟩) h ha
  · exact wpOp_of_seg hi' (fun e a' w' hh => ⟨hh.1, hh.2⟩) h' ha
theorem At.backC {i : Nat} {w' : World} (hz : Nat.blt i z = true) (hC : C w') (h : SegC P n ops Q C z fuel listed fr w') : At n (CPost P ops Q C z fuel listed i) .normal fr w' := .mk fun a ha =>
  ⟨rfl, by rw [if_pos (show i < z from Nat.le_of_ble_eq_true hz)]; exact ⟨hC, h.out a ha⟩⟩
theorem At.endC {i : Nat} {w' : World} (hz : Nat.ble z i = true) (h : SegA P n ops Q fuel listed fr w') : At n (CPost P ops Q C z fuel listed i) .normal fr w' := .mk fun a ha =>
  ⟨rfl, by rw [if_neg (show ¬ i < z from Nat.not_lt.2 (Nat.le_of_ble_eq_true hz))]; exact h.out a ha⟩
theorem SegC.done (hr : Region.ready .any ops listed = []) (h : At n Q .normal fr w) : SegC P n ops Q C z fuel listed fr w := .mk fun a ha => by
  cases fuel with
  | zero => exact ⟨hr, h.out a ha⟩
  | succ f => exact ⟨fun _ => h.out a ha, by rw [hr]; simp⟩
end
end Go.Proofs.YtahpiaaffeiadaaGreatDoor
