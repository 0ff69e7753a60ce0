/- Addresses and prefixes that came in, opened. -/
import Derived.Test.YtdomaooegpeneaaWkx
import Derived.Test.YtdomaooegpeneaaAdk
namespace Go.Proofs.Ytdomaooegpeneaa
open Go Go.RowKit Go.ChangeShapes Go.WideShapes Go.ChangeAt
section
variable {H : Type} {enc : TypeId × Value → H} {w : World} {base : Nat} {cs : List Value}
theorem open_adr (h : Rd enc Try.prog w base 26 cs) : ∃ a : Adr, cs = a.cells ∧ WfA a := by
  obtain ⟨hlen, hadr⟩ := h.fldT Try.underlying26 (p := (0, 1)) rfl
  rw [cellsOf_run Try.sizeOf26] at hlen
  obtain ⟨c0, l0, rfl, k0⟩ := len_succ hlen
  obtain ⟨c1, l1, rfl, k1⟩ := len_succ k0
  obtain ⟨c2, l2, rfl, k2⟩ := len_succ k1
  obtain ⟨c3, l3, rfl, k3⟩ := len_succ k2
  obtain ⟨c4, l4, rfl, k4⟩ := len_succ k3
  obtain ⟨c5, l5, rfl, k5⟩ := len_succ k4
  obtain ⟨c6, l6, rfl, k6⟩ := len_succ k5
  obtain ⟨c7, l7, rfl, k7⟩ := len_succ k6
  obtain ⟨c8, l8, rfl, k8⟩ := len_succ k7
  obtain ⟨c9, l9, rfl, k9⟩ := len_succ k8
  obtain ⟨c10, l10, rfl, k10⟩ := len_succ k9
  obtain ⟨c11, l11, rfl, k11⟩ := len_succ k10
  obtain ⟨c12, l12, rfl, k12⟩ := len_succ k11
  obtain ⟨c13, l13, rfl, k13⟩ := len_succ k12
  obtain ⟨c14, l14, rfl, k14⟩ := len_succ k13
  obtain ⟨c15, l15, rfl, k15⟩ := len_succ k14
  obtain ⟨c16, l16, rfl, k16⟩ := len_succ k15
  obtain ⟨c17, l17, rfl, k17⟩ := len_succ k16
  obtain rfl := List.eq_nil_of_length_eq_zero k17
  obtain ⟨fam, e, w_fam⟩ := (hadr 0 0 1 _ rfl rfl).int Try.underlying3
  obtain rfl : c0 = _ := one_eq e
  obtain ⟨_, hip⟩ := (hadr 1 1 16 _ rfl rfl).arr Try.underlying24 (cellsOf_run Try.sizeOf5)
  obtain ⟨i0, e, w_i0⟩ := (hip 0 (by omega)).int Try.underlying5
  obtain rfl : c1 = _ := one_eq e
  obtain ⟨i1, e, w_i1⟩ := (hip 1 (by omega)).int Try.underlying5
  obtain rfl : c2 = _ := one_eq e
  obtain ⟨i2, e, w_i2⟩ := (hip 2 (by omega)).int Try.underlying5
  obtain rfl : c3 = _ := one_eq e
  obtain ⟨i3, e, w_i3⟩ := (hip 3 (by omega)).int Try.underlying5
  obtain rfl : c4 = _ := one_eq e
  obtain ⟨i4, e, w_i4⟩ := (hip 4 (by omega)).int Try.underlying5
  obtain rfl : c5 = _ := one_eq e
  obtain ⟨i5, e, w_i5⟩ := (hip 5 (by omega)).int Try.underlying5
  obtain rfl : c6 = _ := one_eq e
  obtain ⟨i6, e, w_i6⟩ := (hip 6 (by omega)).int Try.underlying5
  obtain rfl : c7 = _ := one_eq e
  obtain ⟨i7, e, w_i7⟩ := (hip 7 (by omega)).int Try.underlying5
  obtain rfl : c8 = _ := one_eq e
  obtain ⟨i8, e, w_i8⟩ := (hip 8 (by omega)).int Try.underlying5
  obtain rfl : c9 = _ := one_eq e
  obtain ⟨i9, e, w_i9⟩ := (hip 9 (by omega)).int Try.underlying5
  obtain rfl : c10 = _ := one_eq e
  obtain ⟨i10, e, w_i10⟩ := (hip 10 (by omega)).int Try.underlying5
  obtain rfl : c11 = _ := one_eq e
  obtain ⟨i11, e, w_i11⟩ := (hip 11 (by omega)).int Try.underlying5
  obtain rfl : c12 = _ := one_eq e
  obtain ⟨i12, e, w_i12⟩ := (hip 12 (by omega)).int Try.underlying5
  obtain rfl : c13 = _ := one_eq e
  obtain ⟨i13, e, w_i13⟩ := (hip 13 (by omega)).int Try.underlying5
  obtain rfl : c14 = _ := one_eq e
  obtain ⟨i14, e, w_i14⟩ := (hip 14 (by omega)).int Try.underlying5
  obtain rfl : c15 = _ := one_eq e
  obtain ⟨i15, e, w_i15⟩ := (hip 15 (by omega)).int Try.underlying5
  obtain rfl : c16 = _ := one_eq e
  obtain ⟨zone, e, w_zone⟩ := (hadr 2 17 1 _ rfl rfl).int Try.underlying3
  obtain rfl : c17 = _ := one_eq e
  exact ⟨⟨fam, i0, i1, i2, i3, i4, i5, i6, i7, i8, i9, i10, i11, i12, i13, i14, i15, zone⟩, rfl, w_fam, w_zone, (by
    intro i hi
    simp only [Adr.ip, List.mem_cons, List.not_mem_nil, or_false] at hi
    rcases hi with rfl | rfl | rfl | rfl | rfl | rfl | rfl | rfl | rfl | rfl | rfl | rfl | rfl | rfl | rfl | rfl <;> assumption)⟩
theorem open_pfx (h : Rd enc Try.prog w base 35 cs) : ∃ p : El, cs = cel p ∧ WfA p.1 := by
  obtain ⟨hlen, hall⟩ := h.fldT Try.underlying35 (p := (0, 18)) rfl
  rw [cellsOf_run Try.sizeOf35] at hlen
  obtain ⟨c0, l0, rfl, k0⟩ := len_succ hlen
  obtain ⟨c1, l1, rfl, k1⟩ := len_succ k0
  obtain ⟨c2, l2, rfl, k2⟩ := len_succ k1
  obtain ⟨c3, l3, rfl, k3⟩ := len_succ k2
  obtain ⟨c4, l4, rfl, k4⟩ := len_succ k3
  obtain ⟨c5, l5, rfl, k5⟩ := len_succ k4
  obtain ⟨c6, l6, rfl, k6⟩ := len_succ k5
  obtain ⟨c7, l7, rfl, k7⟩ := len_succ k6
  obtain ⟨c8, l8, rfl, k8⟩ := len_succ k7
  obtain ⟨c9, l9, rfl, k9⟩ := len_succ k8
  obtain ⟨c10, l10, rfl, k10⟩ := len_succ k9
  obtain ⟨c11, l11, rfl, k11⟩ := len_succ k10
  obtain ⟨c12, l12, rfl, k12⟩ := len_succ k11
  obtain ⟨c13, l13, rfl, k13⟩ := len_succ k12
  obtain ⟨c14, l14, rfl, k14⟩ := len_succ k13
  obtain ⟨c15, l15, rfl, k15⟩ := len_succ k14
  obtain ⟨c16, l16, rfl, k16⟩ := len_succ k15
  obtain ⟨c17, l17, rfl, k17⟩ := len_succ k16
  obtain ⟨c18, l18, rfl, k18⟩ := len_succ k17
  obtain rfl := List.eq_nil_of_length_eq_zero k18
  obtain ⟨a, e, hw⟩ := open_adr (hall 0 0 18 _ rfl rfl)
  obtain ⟨b, e', _⟩ := (hall 1 18 1 _ rfl rfl).int Try.underlying3
  obtain rfl : c18 = _ := one_eq e'
  have e2 : [c0, c1, c2, c3, c4, c5, c6, c7, c8, c9, c10, c11, c12, c13, c14, c15, c16, c17] = a.cells := e
  refine ⟨(a, b), ?_, hw⟩
  show [c0, c1, c2, c3, c4, c5, c6, c7, c8, c9, c10, c11, c12, c13, c14, c15, c16, c17] ++ [Value.int .i64 b] = _
  rw [e2]; rfl
theorem open_adrs (h : Rd enc Try.prog w base 23 cs) : ∃ v ads, cs = [v] ∧ AdrsAt w v ads ∧ ∀ a ∈ ads, WfA a := by
  obtain ⟨v, L, rfl, h1, _, _, h3⟩ := h.sl Try.underlying23 (cellsOf_run Try.sizeOf26)
  obtain ⟨rs, h4, h5, h6⟩ := list_mapN Adr.cells (fun a => WfA a) L fun l hl => open_adr (h3 l hl).2
  exact ⟨v, rs, rfl, by unfold AdrsAt; rw [h5, ← h4]; exact h1, h6⟩
theorem open_pfxs (h : Rd enc Try.prog w base 22 cs) : ∃ v ps, cs = [v] ∧ PfxAt w v ps ∧ ∀ p ∈ ps, WfA p.1 := by
  obtain ⟨v, L, rfl, h1, _, _, h3⟩ := h.sl Try.underlying22 (cellsOf_run Try.sizeOf35)
  obtain ⟨rs, h4, h5, h6⟩ := list_mapN cel (fun p => WfA p.1) L fun l hl => open_pfx (h3 l hl).2
  exact ⟨v, rs, rfl, by unfold PfxAt; rw [h5, ← h4]; exact h1, h6⟩
end
end Go.Proofs.Ytdomaooegpeneaa
