/- Rules: structs and arrays compared. -/
import Derived.Test.YtccppgpedlfjdaaWkj
import Derived.DeepKeys
import Derived.Laws.Slices
namespace Go.Proofs.Ytccppgpedlfjdaa
open Go Go.RowKit
section
variable {P : Program} {n : Nat} {fr : Fr} {w : World} {T U U' : TypeId} {x y : Operand}
theorem run_equal_lits {a b : Value} {L M : List Lit} {D : Nat} {p : Prop} [Decidable p] (hp : L = M ↔ p) (hk : P.keyTypeAt 50 U = true) (fa : a.formed P U = true) (fb : b.formed P U = true) (ka : P.keyLits D U a.cells.toList = some L) (kb : P.keyLits D U b.cells.toList = some M) :
    (Op.equal U a b).run P w = .ok (decide p) w := by
  obtain ⟨r, h1, h2⟩ := run_equalIn_deep (P := P) (10000 - 50) 50 U hk w D D a b L M fa fb ka kb
  have : r = decide p := by
    rw [Bool.eq_iff_iff, h2, hp]; simp
  rw [← this]
  exact h1
theorem eqGuard_agg {op : BinOp} {as bs : Array Value} (hg : P.eqGuardType P.depth U = false) : (eqGuard op U x y (.agg as) (.agg bs)).run P w = .ok () w := by
  cases op <;> simp [eqGuard, hg]
/-- Structs compared: by their literals. -/
theorem Yd.eqlD {as bs : Array Value} {L M : List Lit} {D : Nat} {p : Prop} [Decidable p] (hx : Fr.ev fr x = some (.agg as)) (hy : Fr.ev fr y = some (.agg bs)) (hg : P.eqGuardType P.depth U = false) (hk : P.keyTypeAt 50 U = true) (fa : (Value.agg as).formed P U = true) (fb : (Value.agg bs).formed P U = true)
    (ka : P.keyLits D U as.toList = some L) (kb : P.keyLits D U bs.toList = some M) (hp : L = M ↔ p) : Yd P n (.binOp .eql U x y U') T fr w (.bool (decide p)) w :=
  .bin hx hy (eqGuard_agg hg) (by simp [binOp, run_equal_lits hp hk fa fb ka kb])
theorem Yd.neqD {as bs : Array Value} {L M : List Lit} {D : Nat} {p : Prop} [Decidable p] (hx : Fr.ev fr x = some (.agg as)) (hy : Fr.ev fr y = some (.agg bs)) (hg : P.eqGuardType P.depth U = false) (hk : P.keyTypeAt 50 U = true) (fa : (Value.agg as).formed P U = true) (fb : (Value.agg bs).formed P U = true)
    (ka : P.keyLits D U as.toList = some L) (kb : P.keyLits D U bs.toList = some M) (hp : L = M ↔ p) : Yd P n (.binOp .neq U x y U') T fr w (.bool (decide (¬ p))) w :=
  .bin hx hy (eqGuard_agg hg) (by simp [binOp, run_equal_lits hp hk fa fb ka kb])
end
/-- A part of a slice. -/
theorem Sl.cut {w : World} {k m c lo hi : Nat} {ao : Option Addr} {cs : List Value} (h : Sl w k (.slice ao m c) m cs) (h1 : lo ≤ hi) (h2 : hi ≤ m) (h3 : m ≤ c) : Sl w k (sliced ao lo hi c k) (hi - lo) ((cs.drop (lo * k)).take ((hi - lo) * k)) := by
  obtain ⟨ao', c', he, hl, hr, hz⟩ := h
  cases he
  have hlen : ((cs.drop (lo * k)).take ((hi - lo) * k)).length = (hi - lo) * k := by
    rw [List.length_take, List.length_drop, hl, Nat.sub_mul]
    have : hi * k ≤ m * k := Nat.mul_le_mul_right k h2
    omega
  refine ⟨_, _, rfl, hlen, fun a ha => ?_, fun ha => ?_⟩
  · split at ha
    · rename_i hc
      have h0 : hi - lo = 0 := by omega
      have : (cs.drop (lo * k)).take ((hi - lo) * k) = [] := List.eq_nil_of_length_eq_zero (by rw [hlen, h0, Nat.zero_mul])
      rw [this]
      intro j v hj; simp at hj
    · cases ao with
      | none => cases ha
      | some b =>
        cases ha
        exact (hr b rfl).part (lo * k) ((hi - lo) * k)
  · split at ha
    · have := hz ha; omega
    · cases ao with
      | none => have := hz rfl; omega
      | some b => cases ha
end Go.Proofs.Ytccppgpedlfjdaa
