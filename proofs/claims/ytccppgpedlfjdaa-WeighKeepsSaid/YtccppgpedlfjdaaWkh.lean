/- Rules: bits of whole numbers; the block of a slice of one's own. -/
import Derived.Test.YtccppgpedlfjdaaWkg
namespace Go.Proofs.Ytccppgpedlfjdaa
open Go Go.RowKit

def bitsAnd (k : IntKind) (i j : Int) : Int := k.wrap (BitVec.ofInt k.bits i &&& BitVec.ofInt k.bits j).toNat
def bitsOr (k : IntKind) (i j : Int) : Int := k.wrap (BitVec.ofInt k.bits i ||| BitVec.ofInt k.bits j).toNat
def bitsXor (k : IntKind) (i j : Int) : Int := k.wrap (BitVec.ofInt k.bits i ^^^ BitVec.ofInt k.bits j).toNat
def bitsAndNot (k : IntKind) (i j : Int) : Int := k.wrap (BitVec.ofInt k.bits i &&& ~~~ BitVec.ofInt k.bits j).toNat
section
variable {P : Program} {n : Nat} {fr : Fr} {w : World} {x y : Operand} {U U' T : TypeId} {k : IntKind} {i j : Int}
theorem Yd.xor (hx : Fr.ev fr x = some (.int k i)) (hy : Fr.ev fr y = some (.int k j)) : Yd P n (.binOp .xor U x y U') T fr w (.int k (bitsXor k i j)) w :=
  .bin hx hy eqGuard_int (by simp [binOp, Op.intBits, bitsXor])
theorem Yd.and (hx : Fr.ev fr x = some (.int k i)) (hy : Fr.ev fr y = some (.int k j)) : Yd P n (.binOp .and U x y U') T fr w (.int k (bitsAnd k i j)) w :=
  .bin hx hy eqGuard_int (by simp [binOp, Op.intBits, bitsAnd])
theorem Yd.or (hx : Fr.ev fr x = some (.int k i)) (hy : Fr.ev fr y = some (.int k j)) : Yd P n (.binOp .or U x y U') T fr w (.int k (bitsOr k i j)) w :=
  .bin hx hy eqGuard_int (by simp [binOp, Op.intBits, bitsOr])
theorem Yd.andNot (hx : Fr.ev fr x = some (.int k i)) (hy : Fr.ev fr y = some (.int k j)) : Yd P n (.binOp .andNot U x y U') T fr w (.int k (bitsAndNot k i j)) w :=
  .bin hx hy eqGuard_int (by simp [binOp, Op.intBits, bitsAndNot])
end

/-- A slice of one's own that is not empty lies at the head of a block of its own. -/
theorem own_bx {w : World} {base e k m : Nat} {v : Value} {cs : List Value} (h : w.ownsRow base e k v m cs) (hm : 0 < m) :
    ∃ g c zs, v = .slice (some ⟨g, 0, none⟩) m c ∧ base ≤ g ∧ Bx w g (cs ++ zs) := by
  obtain ⟨h1, h2⟩ := h
  rcases h2 with ⟨rfl, rfl⟩ | ⟨g, cap, cur, rfl, hb, hh, hn, hc, hs, ht⟩
  · omega
  · exact ⟨g, cap, cur.toList.drop (m * k), rfl, hb, e, by rw [← ht, List.take_append_drop]; simpa using hh⟩
/-- A slice of one's own grew: what lay below its base stays. -/
theorem Ext.own {a w w' : World} {base e k m : Nat} {v : Value} {cs : List Value} (h : Ext a w) (ho : w.ownsRow base e k v m cs) (hb : a.heap.size ≤ base) (hg : w.grownBy w' v.ownBlock) : Ext a w' :=
  Below.grown h hg h.size (fun b hk => by
    obtain ⟨_, h2⟩ := ho
    rcases h2 with ⟨rfl, rfl⟩ | ⟨g, cap, cur, rfl, hbb, _⟩
    · cases hk
    · cases hk; exact Nat.le_trans hb hbb)
end Go.Proofs.Ytccppgpedlfjdaa
