/- Rules: strings and bytes; slices cut; fields and elements of values. -/
import Derived.Test.YtahpiaaffeiadaaGreatWky
import Derived.Laws.IdiomStrings
import Derived.Laws.Slices
namespace Go.Proofs.YtahpiaaffeiadaaGreat
open Go Go.RowKit

/-- Bytes as cells. -/
def bytesV (l : List UInt8) : List Value := l.map fun b => .int .u8 b.toNat

section
variable {P : Program} [Tys P] {n : Fm} {fr : Fr} {w : World} {x y : Operand} {U U' T : TypeId} {l m : List UInt8}
omit [Tys P] in
theorem toList_mk (l : List UInt8) : (ByteArray.mk l.toArray).toList = l := by rw [ByteArray.toList_eq]
omit [Tys P] in
theorem Yd.eqlS (hx : Fr.ev fr x = some (.string ⟨l.toArray⟩)) (hy : Fr.ev fr y = some (.string ⟨m.toArray⟩)) : Yd P n (.binOp .eql U x y U') T fr w (.bool (decide (l = m))) w :=
  .bin hx hy eqGuard_str (by simp [binOp, Op.stringOp]; rw [Bool.eq_iff_iff]; simp)
omit [Tys P] in
theorem Yd.neqS (hx : Fr.ev fr x = some (.string ⟨l.toArray⟩)) (hy : Fr.ev fr y = some (.string ⟨m.toArray⟩)) : Yd P n (.binOp .neq U x y U') T fr w (.bool (decide (l ≠ m))) w :=
  .bin hx hy eqGuard_str (by simp [binOp, Op.stringOp]; rw [Bool.eq_iff_iff]; simp)
omit [Tys P] in
theorem Yd.addS (hx : Fr.ev fr x = some (.string ⟨l.toArray⟩)) (hy : Fr.ev fr y = some (.string ⟨m.toArray⟩)) (hl : l.length + m.length ≤ 9223372036854775807) : Yd P n (.binOp .add U x y U') T fr w (.string ⟨(l ++ m).toArray⟩) w :=
  .bin hx hy eqGuard_str (by
    have h1 : ¬ ((((ByteArray.mk l.toArray).size + (ByteArray.mk m.toArray).size : Nat) : Int) > IntKind.i64.max) := by
      simp only [ByteArray.size, List.size_toArray]
      have : IntKind.i64.max = 9223372036854775807 := by decide
      omega
    have h2 : ByteArray.mk l.toArray ++ ByteArray.mk m.toArray = ByteArray.mk (l ++ m).toArray := by
      apply ByteArray.ext
      simp [ByteArray.data_append]
    simp only [binOp, Op.stringOp, if_neg h1, h2]
    rfl)
theorem Yd.indexStr {q : IntKind} {i : Int} {k : Nat} (hU : strOf P U = some true) (hx : Fr.ev fr x = some (.string ⟨l.toArray⟩)) (hy : Fr.ev fr y = some (.int q i)) (hk : NatOf i k) (h1 : k < l.length) :
    Yd P n (.index U x y) T fr w (.int .u8 ((l.getD k 0).toNat : Nat)) w :=
  .val fun a ha _ _ _ _ => by
    unfold NatOf at hk
    subst hk
    have he : (ByteArray.mk l.toArray)[k]? = some (l.getD k 0) := by
      rw [getElem?_pos (ByteArray.mk l.toArray) k h1]
      have : (ByteArray.mk l.toArray)[k]'h1 = l[k] := by
        show l.toArray[k] = l[k]
        simp
      rw [this]
      simp [List.getD, h1]
    simp [execOp, ha.ev hx, ha.ev hy, Instr.index, asIntOf, run_underlying (und_str hU), he]
theorem Yd.slStr {y z : Operand} {q q' : IntKind} {i j : Int} {lo hi : Nat} (hU : strOf P U = some true) (hx : Fr.ev fr x = some (.string ⟨l.toArray⟩)) (hy : Fr.ev fr y = some (.int q i)) (hz : Fr.ev fr z = some (.int q' j)) (h1 : NatOf i lo) (h2 : NatOf j hi)
    (h3 : lo ≤ hi) (h4 : hi ≤ l.length) : Yd P n (.slice U x (some y) (some z) none) T fr w (.string ⟨((l.take hi).drop lo).toArray⟩) w :=
  .val fun a ha _ _ _ _ => by
    unfold NatOf at h1 h2
    subst h1; subst h2
    have he : (ByteArray.mk l.toArray).extract lo hi = ⟨((l.take hi).drop lo).toArray⟩ := by
      apply ByteArray.ext
      simp [ByteArray.data_extract, List.extract_eq_take_drop, List.drop_take]
    have hs : (ByteArray.mk l.toArray).size = l.length := rfl
    simp [execOp, ha.ev hx, ha.ev hy, ha.ev hz, Instr.sliceAt, Instr.slice, Instr.sliceBounds, Instr.sliceBound, asIntOf, run_underlying (und_str hU), hs, h3, h4, he]
theorem Yd.slStrL {y : Operand} {q : IntKind} {i : Int} {lo : Nat} (hU : strOf P U = some true) (hx : Fr.ev fr x = some (.string ⟨l.toArray⟩)) (hy : Fr.ev fr y = some (.int q i)) (h1 : NatOf i lo)
    (h3 : lo ≤ l.length) : Yd P n (.slice U x (some y) none none) T fr w (.string ⟨(l.drop lo).toArray⟩) w :=
  .val fun a ha _ _ _ _ => by
    unfold NatOf at h1
    subst h1
    have he : (ByteArray.mk l.toArray).extract lo l.length = ⟨(l.drop lo).toArray⟩ := by
      apply ByteArray.ext
      simp [ByteArray.data_extract, List.extract_eq_take_drop]
      rw [List.take_of_length_le (by simp)]
    have hs : (ByteArray.mk l.toArray).size = l.length := rfl
    simp [execOp, ha.ev hx, ha.ev hy, Instr.sliceAt, Instr.slice, Instr.sliceBounds, Instr.sliceBound, asIntOf, run_underlying (und_str hU), hs, h3, he]
theorem Yd.slStrH {z : Operand} {q' : IntKind} {j : Int} {hi : Nat} (hU : strOf P U = some true) (hx : Fr.ev fr x = some (.string ⟨l.toArray⟩)) (hz : Fr.ev fr z = some (.int q' j)) (h2 : NatOf j hi)
    (h4 : hi ≤ l.length) : Yd P n (.slice U x none (some z) none) T fr w (.string ⟨(l.take hi).toArray⟩) w :=
  .val fun a ha _ _ _ _ => by
    unfold NatOf at h2
    subst h2
    have he : (ByteArray.mk l.toArray).extract 0 hi = ⟨(l.take hi).toArray⟩ := by
      apply ByteArray.ext
      simp [ByteArray.data_extract, List.extract_eq_take_drop]
    have hs : (ByteArray.mk l.toArray).size = l.length := rfl
    simp [execOp, ha.ev hx, ha.ev hz, Instr.sliceAt, Instr.slice, Instr.sliceBounds, Instr.sliceBound, asIntOf, run_underlying (und_str hU), hs, h4, he]

/-- Slices of slices. -/
theorem Yd.slSl {y z : Operand} {q q' : IntKind} {i j : Int} {lo hi : Nat} {e s len cap : Nat} {ao : Option Addr} (hU : slOf P U = some (e, s)) (hx : Fr.ev fr x = some (.slice ao len cap)) (hy : Fr.ev fr y = some (.int q i)) (hz : Fr.ev fr z = some (.int q' j)) (h1 : NatOf i lo) (h2 : NatOf j hi)
    (h3 : lo ≤ hi) (h4 : hi ≤ cap) : Yd P n (.slice U x (some y) (some z) none) T fr w (sliced ao lo hi cap s) w :=
  .val fun a ha _ _ _ _ => by
    unfold NatOf at h1 h2
    subst h1; subst h2
    obtain ⟨h5, h6⟩ := und_sl hU
    simp [execOp, ha.ev hx, ha.ev hy, ha.ev hz, Instr.sliceAt, Instr.slice, Instr.sliceBounds, Instr.sliceBound, asIntOf, run_underlying h5, h6, h3, h4, sliced]
theorem Yd.slSlL {y : Operand} {q : IntKind} {i : Int} {lo : Nat} {e s len cap : Nat} {ao : Option Addr} (hU : slOf P U = some (e, s)) (hx : Fr.ev fr x = some (.slice ao len cap)) (hy : Fr.ev fr y = some (.int q i)) (h1 : NatOf i lo)
    (h3 : lo ≤ len) : Yd P n (.slice U x (some y) none none) T fr w (sliced ao lo len cap s) w :=
  .val fun a ha _ _ _ _ => by
    unfold NatOf at h1
    subst h1
    obtain ⟨h5, h6⟩ := und_sl hU
    simp [execOp, ha.ev hx, ha.ev hy, Instr.sliceAt, Instr.slice, Instr.sliceBounds, Instr.sliceBound, asIntOf, run_underlying h5, h6, h3, sliced]
theorem Yd.slSlH {z : Operand} {q' : IntKind} {j : Int} {hi : Nat} {e s len cap : Nat} {ao : Option Addr} (hU : slOf P U = some (e, s)) (hx : Fr.ev fr x = some (.slice ao len cap)) (hz : Fr.ev fr z = some (.int q' j)) (h2 : NatOf j hi)
    (h4 : hi ≤ cap) : Yd P n (.slice U x none (some z) none) T fr w (sliced ao 0 hi cap s) w :=
  .val fun a ha _ _ _ _ => by
    unfold NatOf at h2
    subst h2
    obtain ⟨h5, h6⟩ := und_sl hU
    simp [execOp, ha.ev hx, ha.ev hz, Instr.sliceAt, Instr.slice, Instr.sliceBounds, Instr.sliceBound, asIntOf, run_underlying h5, h6, h4, sliced]

/-- 'string(b)'. -/
theorem Yd.bts {v : Value} {k : Nat} {e : Nat} (hS : slOf P U = some (e, k)) (he : kindOf P e = some .u8) (hD : strOf P U' = some true) (hx : Fr.ev fr x = some v) (hs : Sl w 1 v l.length (bytesV l)) :
    Yd P n (.convert U U' x) T fr w (.string ⟨l.toArray⟩) w :=
  .val fun a ha _ _ _ _ => by
    obtain ⟨ao, c, rfl, h1, h2, h3⟩ := hs
    obtain ⟨h5, h6⟩ := und_sl hS
    have hrun : (convert U U' (.slice ao l.length c)).run P w = .ok (.string ⟨l.toArray⟩) w := by
      cases ao with
      | none =>
        have h0 := h3 rfl
        cases l with
        | nil =>
          rw [run_convert_bytes_string w U U' e none _ c h5 (und_kind he) (und_str hD)]
          simp [Conv.bytesToString]
          rfl
        | cons b l => simp at h0
      | some p =>
        exact run_convert_bytes_back w U U' e p c l h5 (und_kind he) (und_str hD) fun j hj => h2 p rfl j _ (by simp [bytesV, hj])
    simp [execOp, ha.ev hx, hrun]
end
end Go.Proofs.YtahpiaaffeiadaaGreat
