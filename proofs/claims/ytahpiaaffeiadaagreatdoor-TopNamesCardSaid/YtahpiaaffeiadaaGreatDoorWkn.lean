/- Slices made with a length that is told at run time. -/
import Derived.Test.YtahpiaaffeiadaaGreatDoorWkm
import Derived.Test.YtahpiaaffeiadaaGreatDoorWkg
import Derived.Laws.MakeOwn
namespace Go.Proofs.YtahpiaaffeiadaaGreatDoor
open Go Go.RowKit
theorem info_all {P : Program} [Tys P] {T b s : Nat} {z : Value} (hb : byOf P T = some b) (hs : szOf P T = some s) (hz : zerOf P T = some z) : ∃ i, P.info? T = some i ∧ i.bytes = b ∧ i.size = s ∧ i.zero = some z := by
  unfold byOf at hb
  unfold szOf at hs
  unfold zerOf at hz
  split at hb
  · rename_i r hr
    obtain ⟨d, i, ho⟩ := row_of hr
    cases hb
    rw [hr] at hs hz
    cases hs
    cases hz
    exact ⟨i, info_of_run ho.inf, ho.bytes, ho.size, ho.zero⟩
  · cases hb
theorem Seg.makeN {P : Program} [Tys P] {n : Fm} {ops : Array Oper} {Q : Exit → Act → World → Prop} {fr : Fr} {w : World} {T : TypeId} {d : Nat} {U e s by' m : Nat} {x y : Operand} {k1 k2 : IntKind} {pos : String} {aft : Array Edge} {g : Option (Nat × Bool)} {rest : List Oper} {z : Value}
    (hg : gd ops fr g = some true) (hd : Nat.blt d n.n = true) (hf : slOf P U = some (e, s + 1)) (hz : zerOf P e = some z) (hzs : Nat.beq z.cells.size (s + 1) = true) (hby : byOf P e = some by') (hsz : szOf P e = some (s + 1))
    (hx : Fr.ev fr x = some (.int k1 (m : Nat))) (hy : Fr.ev fr y = some (.int k2 (m : Nat))) (hm : m ≤ 1000000 ∧ by' ≤ 1000000)
    (k : ∀ w1 b, Ext w w1 → Bx w1 b (reps m (zcells z)) → w.heap.size ≤ b → Seg P n ops Q rest ((d, .slice (some ⟨b, 0, none⟩) m m) :: fr) w1) :
    Seg P n ops Q (⟨some d, .makeSlice U x y, T, pos, aft, g⟩ :: rest) fr w := by
  obtain ⟨i, h1, h2, h3, h4⟩ := info_all hby hsz hz
  have hzs := Nat.eq_of_beq_eq_true hzs
  refine Seg.step (v := .slice (some ⟨w.heap.size, 0, none⟩) m m) (w' := w.alloc (.cells (reps m (zcells z)).toArray e)) hg hd (.val fun a ha d pos aft g => ?_) (k _ _ (Ext.alloc _ _) (Bx.new _ _ _) (Nat.le_refl _))
  have hb : (i.bytes : Int) * (m : Int) ≤ 281474976710656 := by
    have h5 : i.bytes * m ≤ 1000000 * 1000000 := Nat.mul_le_mul (by omega) hm.1
    have h6 : ((i.bytes * m : Nat) : Int) ≤ 281474976710656 := by omega
    rwa [Int.natCast_mul] at h6
  have h := run_make w U e i z (und_sl hf).1 h1 h4 k1 k2 m m (by omega) (Int.le_refl _) hb (by omega)
  have h7 := reps_made m z.cells (by omega)
  rw [hzs] at h7
  rw [Int.toNat_natCast, h3, madeCells, hzs, h7] at h
  simp only [execOp, ha.ev hx, ha.ev hy]
  rw [Sem.run_bind, h]
  rfl
theorem reps_flat {E : Type} {f : E → List Value} {z : List Value} (e : E) (h : z = f e) : ∀ m, reps m z = (List.replicate m e).flatMap f
  | 0 => rfl
  | m + 1 => by rw [reps, List.replicate_succ, List.flatMap_cons, reps_flat e h m, h]
theorem Bx.reps {E : Type} {f : E → List Value} {z : List Value} {w : World} {b m : Nat} (e : E) (h : z = f e) (hB : Bx w b (reps m z)) : Bx w b ((List.replicate m e).flatMap f) := by
  rw [← reps_flat e h]; exact hB
end Go.Proofs.YtahpiaaffeiadaaGreatDoor
