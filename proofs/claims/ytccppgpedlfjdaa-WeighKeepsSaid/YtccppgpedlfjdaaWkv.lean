/- Rules: regions that draw their order, in which all reads come before one chain of operations that may write. -/
import Derived.Test.YtccppgpedlfjdaaWkq
import Derived.StillTail
namespace Go.Proofs.Ytccppgpedlfjdaa
open Go Go.RowKit
/-- The head of such a region: it reads the world w. -/
structure SegS (P : Program) (n : Nat) (ops : Array Oper) (w : World) (K : Act → Prop) (l : List Oper) (fr : Fr) : Prop where
  out : ∀ a, Fr.Of fr n a → wpStill P ops w K l a
section
variable {P : Program} {n : Nat} {ops : Array Oper} {K : Act → Prop} {Q : Exit → Act → World → Prop} {fr : Fr} {w : World}
theorem SegS.step {d : Nat} {op : Op} {T : TypeId} {pos : String} {aft : Array Edge} {g : Option (Nat × Bool)} {rest : List Oper} {v : Value}
    (hg : gd ops fr g = some true) (hd : Nat.blt d n = true) (hy : Yd P n op T fr w v w) (k : SegS P n ops w K rest ((d, v) :: fr)) :
    SegS P n ops w K (⟨some d, op, T, pos, aft, g⟩ :: rest) fr := .mk fun a ha => by
  refine wpStill_step fun K' hK => ?_
  rw [if_pos (gd_wanted ha (o := ⟨some d, op, T, pos, aft, g⟩) hg)]
  unfold Oper.still
  rw [hy.out a ha (some d) pos aft g]
  exact ⟨rfl, hK _ (k.out _ (ha.put hd _))⟩
theorem SegS.skip {d : Nat} {op : Op} {T : TypeId} {pos : String} {aft : Array Edge} {g : Option (Nat × Bool)} {rest : List Oper}
    (hg : gd ops fr g = some false) (hd : Nat.blt d n = true) (k : SegS P n ops w K rest ((d, undef) :: fr)) :
    SegS P n ops w K (⟨some d, op, T, pos, aft, g⟩ :: rest) fr := .mk fun a ha => by
  refine wpStill_step fun K' hK => ?_
  rw [if_neg (by rw [gd_wanted ha (o := ⟨some d, op, T, pos, aft, g⟩) hg]; simp)]
  exact hK _ (k.out _ (ha.put hd _))
theorem SegS.nil {t : List Oper} (h : Seg P n ops Q t fr w) : SegS P n ops w (fun a => wpList P ops Q t a w) [] fr := .mk fun a ha => h.out a ha
theorem Cd.still (k : Nat) {id : Nat} {l : List Oper} (hm : P.follows .mixedOrders = true) (hB : Region.lexTailB .any l.toArray k = true)
    (h : ∀ w1, Ext w w1 → SegS P n l.toArray w1 (fun a => wpList P l.toArray Q (l.drop k) a w1) (l.take k) fr) : Cd P n Q (.region id l.toArray true) fr w := .mk fun a ha =>
  wp_region_still_tail k hm hB ((h w.drew (Ext.drew w)).out a ha)
end
end Go.Proofs.Ytccppgpedlfjdaa
