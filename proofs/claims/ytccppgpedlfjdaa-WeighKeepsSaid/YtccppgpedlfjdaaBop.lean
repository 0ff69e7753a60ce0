/- Questions and records that came in, opened. -/
import Derived.Test.YtccppgpedlfjdaaWkx
import Derived.Test.YtccppgpedlfjdaaBrs
namespace Go.Proofs.Ytccppgpedlfjdaa
open Go Go.RowKit Go.ChangeShapes Go.WideShapes Go.ChangeAt
section
variable {H : Type} {enc : TypeId × Value → H} {w : World} {base : Nat} {cs : List Value}
theorem open_name (h : Rd enc Try.prog w base 38 cs) : ∃ v xs, cs = [v] ∧ NameAt w v xs ∧ Held xs := by
  obtain ⟨v, xs, rfl, h1, h2, h3⟩ := h.strs Try.underlying38 Try.underlying9 (cellsOf_run Try.sizeOf9)
  have hb : Try.prog.bytesOf 9 = 16 := by kernel_rfl
  rw [hb] at h2
  exact ⟨v, xs, rfl, h1, by omega, h3⟩
theorem open_rec (h : Rd enc Try.prog w base 44 cs) : ∃ r : Rec, cs = r.cells ∧ RecAt w r ∧ HeldR r ∧ WfR r := by
  obtain ⟨hlen, hall⟩ := h.fldT Try.underlying44 (p := (0, 1)) rfl
  rw [cellsOf_run Try.sizeOf44] at hlen
  obtain ⟨c0, l0, rfl, k0⟩ := len_succ hlen
  obtain ⟨c1, l1, rfl, k1⟩ := len_succ k0
  obtain ⟨c2, l2, rfl, k2⟩ := len_succ k1
  obtain ⟨c3, l3, rfl, k3⟩ := len_succ k2
  obtain ⟨c4, l4, rfl, k4⟩ := len_succ k3
  obtain ⟨c5, l5, rfl, k5⟩ := len_succ k4
  obtain ⟨c6, l6, rfl, k6⟩ := len_succ k5
  obtain ⟨c7, l7, rfl, k7⟩ := len_succ k6
  obtain ⟨c8, l8, rfl, k8⟩ := len_succ k7
  obtain ⟨c9, l9, rfl, k9⟩ := len_succ k8
  obtain ⟨c10, l10, rfl, k10⟩ := len_succ k9
  obtain ⟨c11, l11, rfl, k11⟩ := len_succ k10
  obtain ⟨c12, l12, rfl, k12⟩ := len_succ k11
  obtain ⟨c13, l13, rfl, k13⟩ := len_succ k12
  obtain ⟨c14, l14, rfl, k14⟩ := len_succ k13
  obtain ⟨c15, l15, rfl, k15⟩ := len_succ k14
  obtain ⟨c16, l16, rfl, k16⟩ := len_succ k15
  obtain ⟨c17, l17, rfl, k17⟩ := len_succ k16
  obtain ⟨c18, l18, rfl, k18⟩ := len_succ k17
  obtain ⟨c19, l19, rfl, k19⟩ := len_succ k18
  obtain ⟨c20, l20, rfl, k20⟩ := len_succ k19
  obtain ⟨c21, l21, rfl, k21⟩ := len_succ k20
  obtain ⟨c22, l22, rfl, k22⟩ := len_succ k21
  obtain ⟨c23, l23, rfl, k23⟩ := len_succ k22
  obtain ⟨c24, l24, rfl, k24⟩ := len_succ k23
  obtain ⟨c25, l25, rfl, k25⟩ := len_succ k24
  obtain ⟨c26, l26, rfl, k26⟩ := len_succ k25
  obtain ⟨c27, l27, rfl, k27⟩ := len_succ k26
  obtain ⟨c28, l28, rfl, k28⟩ := len_succ k27
  obtain ⟨c29, l29, rfl, k29⟩ := len_succ k28
  obtain ⟨c30, l30, rfl, k30⟩ := len_succ k29
  obtain ⟨c31, l31, rfl, k31⟩ := len_succ k30
  obtain ⟨c32, l32, rfl, k32⟩ := len_succ k31
  obtain rfl := List.eq_nil_of_length_eq_zero k32
  obtain ⟨vn, nm, e, hn1, hn2⟩ := open_name (hall 0 0 1 _ rfl rfl)
  obtain rfl : c0 = _ := one_eq e
  obtain ⟨ty, e, _⟩ := (hall 1 1 1 _ rfl rfl).int Try.underlying3
  obtain rfl : c1 = _ := one_eq e
  obtain ⟨cl, e, _⟩ := (hall 2 2 1 _ rfl rfl).int Try.underlying3
  obtain rfl : c2 = _ := one_eq e
  obtain ⟨ttl, e, _⟩ := (hall 3 3 1 _ rfl rfl).int Try.underlying3
  obtain rfl : c3 = _ := one_eq e
  obtain ⟨_, hadr⟩ := (hall 4 4 18 _ rfl rfl).fldT Try.underlying41 (p := (0, 1)) rfl
  obtain ⟨fam, e, w_fam⟩ := (hadr 0 0 1 _ rfl rfl).int Try.underlying3
  obtain rfl : c4 = _ := one_eq e
  obtain ⟨_, hip⟩ := (hadr 1 1 16 _ rfl rfl).arr Try.underlying39 (cellsOf_run Try.sizeOf5)
  obtain ⟨i0, e, w_i0⟩ := (hip 0 (by omega)).int Try.underlying5
  obtain rfl : c5 = _ := one_eq e
  obtain ⟨i1, e, w_i1⟩ := (hip 1 (by omega)).int Try.underlying5
  obtain rfl : c6 = _ := one_eq e
  obtain ⟨i2, e, w_i2⟩ := (hip 2 (by omega)).int Try.underlying5
  obtain rfl : c7 = _ := one_eq e
  obtain ⟨i3, e, w_i3⟩ := (hip 3 (by omega)).int Try.underlying5
  obtain rfl : c8 = _ := one_eq e
  obtain ⟨i4, e, w_i4⟩ := (hip 4 (by omega)).int Try.underlying5
  obtain rfl : c9 = _ := one_eq e
  obtain ⟨i5, e, w_i5⟩ := (hip 5 (by omega)).int Try.underlying5
  obtain rfl : c10 = _ := one_eq e
  obtain ⟨i6, e, w_i6⟩ := (hip 6 (by omega)).int Try.underlying5
  obtain rfl : c11 = _ := one_eq e
  obtain ⟨i7, e, w_i7⟩ := (hip 7 (by omega)).int Try.underlying5
  obtain rfl : c12 = _ := one_eq e
  obtain ⟨i8, e, w_i8⟩ := (hip 8 (by omega)).int Try.underlying5
  obtain rfl : c13 = _ := one_eq e
  obtain ⟨i9, e, w_i9⟩ := (hip 9 (by omega)).int Try.underlying5
  obtain rfl : c14 = _ := one_eq e
  obtain ⟨i10, e, w_i10⟩ := (hip 10 (by omega)).int Try.underlying5
  obtain rfl : c15 = _ := one_eq e
  obtain ⟨i11, e, w_i11⟩ := (hip 11 (by omega)).int Try.underlying5
  obtain rfl : c16 = _ := one_eq e
  obtain ⟨i12, e, w_i12⟩ := (hip 12 (by omega)).int Try.underlying5
  obtain rfl : c17 = _ := one_eq e
  obtain ⟨i13, e, w_i13⟩ := (hip 13 (by omega)).int Try.underlying5
  obtain rfl : c18 = _ := one_eq e
  obtain ⟨i14, e, w_i14⟩ := (hip 14 (by omega)).int Try.underlying5
  obtain rfl : c19 = _ := one_eq e
  obtain ⟨i15, e, w_i15⟩ := (hip 15 (by omega)).int Try.underlying5
  obtain rfl : c20 = _ := one_eq e
  obtain ⟨zone, e, w_zone⟩ := (hadr 2 17 1 _ rfl rfl).int Try.underlying3
  obtain rfl : c21 = _ := one_eq e
  obtain ⟨vt, tg, e, ht1, ht2⟩ := open_name (hall 5 22 1 _ rfl rfl)
  obtain rfl : c22 = _ := one_eq e
  obtain ⟨vm, ml, e, hm1, hm2⟩ := open_name (hall 6 23 1 _ rfl rfl)
  obtain rfl : c23 = _ := one_eq e
  obtain ⟨pri, e, _⟩ := (hall 7 24 1 _ rfl rfl).int Try.underlying3
  obtain rfl : c24 = _ := one_eq e
  obtain ⟨wt, e, _⟩ := (hall 8 25 1 _ rfl rfl).int Try.underlying3
  obtain rfl : c25 = _ := one_eq e
  obtain ⟨pt, e, _⟩ := (hall 9 26 1 _ rfl rfl).int Try.underlying3
  obtain rfl : c26 = _ := one_eq e
  obtain ⟨_, hnu⟩ := (hall 10 27 5 _ rfl rfl).arr Try.underlying42 (cellsOf_run Try.sizeOf3)
  obtain ⟨m0, e, w_m0⟩ := (hnu 0 (by omega)).int Try.underlying3
  obtain rfl : c27 = _ := one_eq e
  obtain ⟨m1, e, w_m1⟩ := (hnu 1 (by omega)).int Try.underlying3
  obtain rfl : c28 = _ := one_eq e
  obtain ⟨m2, e, w_m2⟩ := (hnu 2 (by omega)).int Try.underlying3
  obtain rfl : c29 = _ := one_eq e
  obtain ⟨m3, e, w_m3⟩ := (hnu 3 (by omega)).int Try.underlying3
  obtain rfl : c30 = _ := one_eq e
  obtain ⟨m4, e, w_m4⟩ := (hnu 4 (by omega)).int Try.underlying3
  obtain rfl : c31 = _ := one_eq e
  obtain ⟨raw, e, hraw⟩ := (hall 11 32 1 _ rfl rfl).str Try.underlying9
  obtain rfl : c32 = _ := one_eq e
  exact ⟨{ nm := nm, tg := tg, ml := ml, vn := _, vt := _, vm := _, ty := ty, cl := cl, ttl := ttl, fam := fam, zone := zone, pri := pri, wt := wt, pt := pt, raw := raw, i0 := i0, i1 := i1, i2 := i2, i3 := i3, i4 := i4, i5 := i5, i6 := i6, i7 := i7, i8 := i8, i9 := i9, i10 := i10, i11 := i11, i12 := i12, i13 := i13, i14 := i14, i15 := i15, m0 := m0, m1 := m1, m2 := m2, m3 := m3, m4 := m4 }, rfl, ⟨hn1, ht1, hm1⟩, ⟨hn2, ht2, hm2, hraw⟩, w_fam, w_zone, (by
    intro i hi
    simp only [List.mem_cons, List.not_mem_nil, or_false] at hi
    rcases hi with rfl | rfl | rfl | rfl | rfl | rfl | rfl | rfl | rfl | rfl | rfl | rfl | rfl | rfl | rfl | rfl <;> assumption), (by
    intro i hi
    simp only [Rec.nums, List.mem_cons, List.not_mem_nil, or_false] at hi
    rcases hi with rfl | rfl | rfl | rfl | rfl <;> assumption)⟩
theorem open_recs (h : Rd enc Try.prog w base 33 cs) : ∃ v rs, cs = [v] ∧ RecsAt w v rs ∧ (∀ r ∈ rs, HeldR r) ∧ ∀ r ∈ rs, WfR r := by
  obtain ⟨v, L, rfl, h1, _, _, h3⟩ := h.sl Try.underlying33 (cellsOf_run Try.sizeOf44)
  obtain ⟨rs, h4, h5, h6⟩ := list_mapN Rec.cells (fun r => RecAt w r ∧ HeldR r ∧ WfR r) L fun l hl => open_rec (h3 l hl).2
  exact ⟨v, rs, rfl, ⟨by rw [h5]; show Sl w 33 v _ (rs.flatMap Rec.cells); rw [← h4]; exact h1, fun r hr => (h6 r hr).1⟩, fun r hr => (h6 r hr).2.1, fun r hr => (h6 r hr).2.2⟩
end
end Go.Proofs.Ytccppgpedlfjdaa
