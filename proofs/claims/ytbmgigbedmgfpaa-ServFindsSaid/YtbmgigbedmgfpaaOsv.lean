/- Services that came in, opened. -/
import Derived.Test.YtbmgigbedmgfpaaWkx
import Derived.Test.YtbmgigbedmgfpaaPrs
namespace Go.Proofs.Ytbmgigbedmgfpaa
open Go Go.RowKit Go.ChangeShapes Go.WideShapes Go.ChangeAt
section
variable {H : Type} {enc : TypeId × Value → H} {w : World} {base : Nat} {cs : List Value}
theorem open_svc (h : Rd enc Try.prog w base 37 cs) : ∃ x : Sv, cs = svV x ∧ NameAt w x.1 x.2.names ∧ x.2.names.length ≤ 140737488351232 := by
  obtain ⟨hlen, hall⟩ := h.fldT Try.underlying37 (p := (0, 1)) rfl
  rw [cellsOf_run Try.sizeOf37] at hlen
  obtain ⟨c0, l0, rfl, k0⟩ := len_succ hlen
  obtain ⟨c1, l1, rfl, k1⟩ := len_succ k0
  obtain ⟨c2, l2, rfl, k2⟩ := len_succ k1
  obtain rfl := List.eq_nil_of_length_eq_zero k2
  obtain ⟨v, xs, e0, hx, hb, _⟩ := (hall 0 0 1 _ rfl rfl).strs Try.underlying26 Try.underlying9 (cellsOf_run Try.sizeOf9)
  obtain rfl : c0 = _ := one_eq e0
  obtain ⟨po, e, _⟩ := (hall 1 1 1 _ rfl rfl).int Try.underlying3
  obtain rfl : c1 = _ := one_eq e
  obtain ⟨pr, e, _⟩ := (hall 2 2 1 _ rfl rfl).int Try.underlying3
  obtain rfl : c2 = _ := one_eq e
  have hb16 : Try.prog.bytesOf 9 = 16 := by kernel_rfl
  rw [hb16] at hb
  exact ⟨(c0, ⟨xs, po, pr⟩), rfl, hx, by simp only; omega⟩
theorem open_svcs (h : Rd enc Try.prog w base 31 cs) : ∃ (v : Value) (X : List Sv), cs = [v] ∧ Sl w 3 v X.length (X.flatMap svV) ∧ X.length ≤ 140737488351232 ∧ ∀ x ∈ X, NameAt w x.1 x.2.names ∧ x.2.names.length ≤ 140737488351232 := by
  obtain ⟨v, L, rfl, h1, _, h2, h3⟩ := h.sl Try.underlying31 (cellsOf_run Try.sizeOf37)
  have hb40 : Try.prog.bytesOf 37 = 40 := by kernel_rfl
  rw [hb40] at h2
  obtain ⟨X, h4, h5, h6⟩ := list_mapN svV (fun x => NameAt w x.1 x.2.names ∧ x.2.names.length ≤ 140737488351232) L fun l hl => open_svc (h3 l hl).2
  exact ⟨v, X, rfl, by rw [h5, ← h4]; exact h1, by omega, h6⟩
end
end Go.Proofs.Ytbmgigbedmgfpaa
