/- Messages that came in, opened. -/
import Derived.Test.YtahpiaaffeiadaaGreatWky
import Derived.Test.YtahpiaaffeiadaaGreatZtw
namespace Go.Proofs.YtahpiaaffeiadaaGreat
open Go Go.RowKit Go.ChangeShapes Go.WideShapes Go.ChangeAt
section
variable {H : Type} {enc : TypeId × Value → H} {w : World} {base : Nat} {cs : List Value}
theorem open_name (h : Rd enc Tryz.prog w base 47 cs) : ∃ v xs, cs = [v] ∧ NameAt w v xs ∧ Held xs := by
  obtain ⟨v, xs, rfl, h1, h2, h3⟩ := h.strs Tryz.underlying47 Tryz.underlying9 (cellsOf_run Tryz.sizeOf9)
  have hb : Tryz.prog.bytesOf 9 = 16 := by kernel_rfl
  rw [hb] at h2
  exact ⟨v, xs, rfl, h1, by omega, h3⟩
theorem open_question (h : Rd enc Tryz.prog w base 49 cs) : ∃ v xs qt qc, cs = [v, .int .i64 qt, .int .i64 qc] ∧ NameAt w v xs ∧ Held xs := by
  obtain ⟨hlen, hall⟩ := h.fldT Tryz.underlying49 (p := (0, 1)) rfl
  rw [cellsOf_run Tryz.sizeOf49] at hlen
  obtain ⟨c0, l0, rfl, k0⟩ := len_succ hlen
  obtain ⟨c1, l1, rfl, k1⟩ := len_succ k0
  obtain ⟨c2, l2, rfl, k2⟩ := len_succ k1
  obtain rfl := List.eq_nil_of_length_eq_zero k2
  obtain ⟨v, xs, e0, h1, h2⟩ := open_name (hall 0 0 1 _ rfl rfl)
  obtain rfl : c0 = _ := one_eq e0
  obtain ⟨qt, e1, _⟩ := (hall 1 1 1 _ rfl rfl).int Tryz.underlying3
  obtain rfl : c1 = _ := one_eq e1
  obtain ⟨qc, e2, _⟩ := (hall 2 2 1 _ rfl rfl).int Tryz.underlying3
  obtain rfl : c2 = _ := one_eq e2
  exact ⟨_, _, _, _, rfl, h1, h2⟩
theorem open_rec (h : Rd enc Tryz.prog w base 57 cs) : ∃ r : Rec, cs = r.cells ∧ RecAt w r ∧ HeldR r ∧ WfR r := by
  obtain ⟨hlen, hall⟩ := h.fldT Tryz.underlying57 (p := (0, 1)) rfl
  rw [cellsOf_run Tryz.sizeOf57] at hlen
  obtain ⟨c0, l0, rfl, k0⟩ := len_succ hlen
  obtain ⟨c1, l1, rfl, k1⟩ := len_succ k0
  obtain ⟨c2, l2, rfl, k2⟩ := len_succ k1
  obtain ⟨c3, l3, rfl, k3⟩ := len_succ k2
  obtain ⟨c4, l4, rfl, k4⟩ := len_succ k3
  obtain ⟨c5, l5, rfl, k5⟩ := len_succ k4
  obtain ⟨c6, l6, rfl, k6⟩ := len_succ k5
  obtain ⟨c7, l7, rfl, k7⟩ := len_succ k6
  obtain ⟨c8, l8, rfl, k8⟩ := len_succ k7
  obtain ⟨c9, l9, rfl, k9⟩ := len_succ k8
  obtain ⟨c10, l10, rfl, k10⟩ := len_succ k9
  obtain ⟨c11, l11, rfl, k11⟩ := len_succ k10
  obtain ⟨c12, l12, rfl, k12⟩ := len_succ k11
  obtain ⟨c13, l13, rfl, k13⟩ := len_succ k12
  obtain ⟨c14, l14, rfl, k14⟩ := len_succ k13
  obtain ⟨c15, l15, rfl, k15⟩ := len_succ k14
  obtain ⟨c16, l16, rfl, k16⟩ := len_succ k15
  obtain ⟨c17, l17, rfl, k17⟩ := len_succ k16
  obtain ⟨c18, l18, rfl, k18⟩ := len_succ k17
  obtain ⟨c19, l19, rfl, k19⟩ := len_succ k18
  obtain ⟨c20, l20, rfl, k20⟩ := len_succ k19
  obtain ⟨c21, l21, rfl, k21⟩ := len_succ k20
  obtain ⟨c22, l22, rfl, k22⟩ := len_succ k21
  obtain ⟨c23, l23, rfl, k23⟩ := len_succ k22
  obtain ⟨c24, l24, rfl, k24⟩ := len_succ k23
  obtain ⟨c25, l25, rfl, k25⟩ := len_succ k24
  obtain ⟨c26, l26, rfl, k26⟩ := len_succ k25
  obtain ⟨c27, l27, rfl, k27⟩ := len_succ k26
  obtain ⟨c28, l28, rfl, k28⟩ := len_succ k27
  obtain ⟨c29, l29, rfl, k29⟩ := len_succ k28
  obtain ⟨c30, l30, rfl, k30⟩ := len_succ k29
  obtain ⟨c31, l31, rfl, k31⟩ := len_succ k30
  obtain ⟨c32, l32, rfl, k32⟩ := len_succ k31
  obtain rfl := List.eq_nil_of_length_eq_zero k32
  obtain ⟨vn, nm, e, hn1, hn2⟩ := open_name (hall 0 0 1 _ rfl rfl)
  obtain rfl : c0 = _ := one_eq e
  obtain ⟨ty, e, _⟩ := (hall 1 1 1 _ rfl rfl).int Tryz.underlying3
  obtain rfl : c1 = _ := one_eq e
  obtain ⟨cl, e, _⟩ := (hall 2 2 1 _ rfl rfl).int Tryz.underlying3
  obtain rfl : c2 = _ := one_eq e
  obtain ⟨ttl, e, _⟩ := (hall 3 3 1 _ rfl rfl).int Tryz.underlying3
  obtain rfl : c3 = _ := one_eq e
  obtain ⟨_, hadr⟩ := (hall 4 4 18 _ rfl rfl).fldT Tryz.underlying54 (p := (0, 1)) rfl
  obtain ⟨fam, e, w_fam⟩ := (hadr 0 0 1 _ rfl rfl).int Tryz.underlying3
  obtain rfl : c4 = _ := one_eq e
  obtain ⟨_, hip⟩ := (hadr 1 1 16 _ rfl rfl).arr Tryz.underlying52 (cellsOf_run Tryz.sizeOf5)
  obtain ⟨i0, e, w_i0⟩ := (hip 0 (by omega)).int Tryz.underlying5
  obtain rfl : c5 = _ := one_eq e
  obtain ⟨i1, e, w_i1⟩ := (hip 1 (by omega)).int Tryz.underlying5
  obtain rfl : c6 = _ := one_eq e
  obtain ⟨i2, e, w_i2⟩ := (hip 2 (by omega)).int Tryz.underlying5
  obtain rfl : c7 = _ := one_eq e
  obtain ⟨i3, e, w_i3⟩ := (hip 3 (by omega)).int Tryz.underlying5
  obtain rfl : c8 = _ := one_eq e
  obtain ⟨i4, e, w_i4⟩ := (hip 4 (by omega)).int Tryz.underlying5
  obtain rfl : c9 = _ := one_eq e
  obtain ⟨i5, e, w_i5⟩ := (hip 5 (by omega)).int Tryz.underlying5
  obtain rfl : c10 = _ := one_eq e
  obtain ⟨i6, e, w_i6⟩ := (hip 6 (by omega)).int Tryz.underlying5
  obtain rfl : c11 = _ := one_eq e
  obtain ⟨i7, e, w_i7⟩ := (hip 7 (by omega)).int Tryz.underlying5
  obtain rfl : c12 = _ := one_eq e
  obtain ⟨i8, e, w_i8⟩ := (hip 8 (by omega)).int Tryz.underlying5
  obtain rfl : c13 = _ := one_eq e
  obtain ⟨i9, e, w_i9⟩ := (hip 9 (by omega)).int Tryz.underlying5
  obtain rfl : c14 = _ := one_eq e
  obtain ⟨i10, e, w_i10⟩ := (hip 10 (by omega)).int Tryz.underlying5
  obtain rfl : c15 = _ := one_eq e
  obtain ⟨i11, e, w_i11⟩ := (hip 11 (by omega)).int Tryz.underlying5
  obtain rfl : c16 = _ := one_eq e
  obtain ⟨i12, e, w_i12⟩ := (hip 12 (by omega)).int Tryz.underlying5
  obtain rfl : c17 = _ := one_eq e
  obtain ⟨i13, e, w_i13⟩ := (hip 13 (by omega)).int Tryz.underlying5
  obtain rfl : c18 = _ := one_eq e
  obtain ⟨i14, e, w_i14⟩ := (hip 14 (by omega)).int Tryz.underlying5
  obtain rfl : c19 = _ := one_eq e
  obtain ⟨i15, e, w_i15⟩ := (hip 15 (by omega)).int Tryz.underlying5
  obtain rfl : c20 = _ := one_eq e
  obtain ⟨zone, e, w_zone⟩ := (hadr 2 17 1 _ rfl rfl).int Tryz.underlying3
  obtain rfl : c21 = _ := one_eq e
  obtain ⟨vt, tg, e, ht1, ht2⟩ := open_name (hall 5 22 1 _ rfl rfl)
  obtain rfl : c22 = _ := one_eq e
  obtain ⟨vm, ml, e, hm1, hm2⟩ := open_name (hall 6 23 1 _ rfl rfl)
  obtain rfl : c23 = _ := one_eq e
  obtain ⟨pri, e, _⟩ := (hall 7 24 1 _ rfl rfl).int Tryz.underlying3
  obtain rfl : c24 = _ := one_eq e
  obtain ⟨wt, e, _⟩ := (hall 8 25 1 _ rfl rfl).int Tryz.underlying3
  obtain rfl : c25 = _ := one_eq e
  obtain ⟨pt, e, _⟩ := (hall 9 26 1 _ rfl rfl).int Tryz.underlying3
  obtain rfl : c26 = _ := one_eq e
  obtain ⟨_, hnu⟩ := (hall 10 27 5 _ rfl rfl).arr Tryz.underlying55 (cellsOf_run Tryz.sizeOf3)
  obtain ⟨m0, e, w_m0⟩ := (hnu 0 (by omega)).int Tryz.underlying3
  obtain rfl : c27 = _ := one_eq e
  obtain ⟨m1, e, w_m1⟩ := (hnu 1 (by omega)).int Tryz.underlying3
  obtain rfl : c28 = _ := one_eq e
  obtain ⟨m2, e, w_m2⟩ := (hnu 2 (by omega)).int Tryz.underlying3
  obtain rfl : c29 = _ := one_eq e
  obtain ⟨m3, e, w_m3⟩ := (hnu 3 (by omega)).int Tryz.underlying3
  obtain rfl : c30 = _ := one_eq e
  obtain ⟨m4, e, w_m4⟩ := (hnu 4 (by omega)).int Tryz.underlying3
  obtain rfl : c31 = _ := one_eq e
  obtain ⟨raw, e, hraw⟩ := (hall 11 32 1 _ rfl rfl).str Tryz.underlying9
  obtain rfl : c32 = _ := one_eq e
  exact ⟨{ nm := nm, tg := tg, ml := ml, vn := _, vt := _, vm := _, ty := ty, cl := cl, ttl := ttl, fam := fam, zone := zone, pri := pri, wt := wt, pt := pt, raw := raw, i0 := i0, i1 := i1, i2 := i2, i3 := i3, i4 := i4, i5 := i5, i6 := i6, i7 := i7, i8 := i8, i9 := i9, i10 := i10, i11 := i11, i12 := i12, i13 := i13, i14 := i14, i15 := i15, m0 := m0, m1 := m1, m2 := m2, m3 := m3, m4 := m4 }, rfl, ⟨hn1, ht1, hm1⟩, ⟨hn2, ht2, hm2, hraw⟩, w_fam, w_zone, (by
    intro i hi
    simp only [List.mem_cons, List.not_mem_nil, or_false] at hi
    rcases hi with rfl | rfl | rfl | rfl | rfl | rfl | rfl | rfl | rfl | rfl | rfl | rfl | rfl | rfl | rfl | rfl <;> assumption), (by
    intro i hi
    simp only [Rec.nums, List.mem_cons, List.not_mem_nil, or_false] at hi
    rcases hi with rfl | rfl | rfl | rfl | rfl <;> assumption)⟩
theorem open_recs (h : Rd enc Tryz.prog w base 28 cs) : ∃ v rs, cs = [v] ∧ RecsAt w v rs ∧ rs.length ≤ 140737488351232 ∧ ∀ r ∈ rs, HeldR r ∧ WfR r := by
  obtain ⟨v, L, rfl, h1, _, hb, h3⟩ := h.sl Tryz.underlying28 (cellsOf_run Tryz.sizeOf57)
  have hby : Tryz.prog.bytesOf 57 = 208 := by kernel_rfl
  rw [hby] at hb
  obtain ⟨rs, h4, h5, h6⟩ := list_mapN Rec.cells (fun r => RecAt w r ∧ HeldR r ∧ WfR r) L fun l hl => open_rec (h3 l hl).2
  exact ⟨v, rs, rfl, ⟨by rw [h5]; show Sl w 33 v _ (rs.flatMap Rec.cells); rw [← h4]; exact h1, fun r hr => (h6 r hr).1⟩, by rw [h5]; omega, fun r hr => (h6 r hr).2⟩
theorem open_qm (h : Rd enc Tryz.prog w base 49 cs) : ∃ q : Qm, cs = q.cells ∧ NameAt w q.v q.n ∧ Held q.n := by
  obtain ⟨v, xs, qt, qc, rfl, h1, h2⟩ := open_question h
  exact ⟨⟨xs, v, qt, qc⟩, rfl, h1, h2⟩
theorem open_qs (h : Rd enc Tryz.prog w base 27 cs) : ∃ v qs, cs = [v] ∧ QmAt w v qs ∧ qs.length ≤ 140737488351232 ∧ ∀ q ∈ qs, Held q.n := by
  obtain ⟨v, L, rfl, h1, _, hb, h3⟩ := h.sl Tryz.underlying27 (cellsOf_run Tryz.sizeOf49)
  have hby : Tryz.prog.bytesOf 49 = 40 := by kernel_rfl
  rw [hby] at hb
  obtain ⟨qs, h4, h5, h6⟩ := list_mapN Qm.cells (fun q => NameAt w q.v q.n ∧ Held q.n) L fun l hl => open_qm (h3 l hl).2
  exact ⟨v, qs, rfl, ⟨by rw [h5]; rw [← h4]; exact h1, fun q hq => (h6 q hq).1⟩, by rw [h5]; omega, fun q hq => (h6 q hq).2⟩
theorem open_hd (h : Rd enc Tryz.prog w base 26 cs) : ∃ h : Hd, cs = h.cells := by
  obtain ⟨hlen, hall⟩ := h.fldT Tryz.underlying26 (p := (0, 1)) rfl
  rw [cellsOf_run Tryz.sizeOf26] at hlen
  obtain ⟨c0, l0, rfl, k0⟩ := len_succ hlen
  obtain ⟨c1, l1, rfl, k1⟩ := len_succ k0
  obtain ⟨c2, l2, rfl, k2⟩ := len_succ k1
  obtain ⟨c3, l3, rfl, k3⟩ := len_succ k2
  obtain ⟨c4, l4, rfl, k4⟩ := len_succ k3
  obtain ⟨c5, l5, rfl, k5⟩ := len_succ k4
  obtain ⟨c6, l6, rfl, k6⟩ := len_succ k5
  obtain ⟨c7, l7, rfl, k7⟩ := len_succ k6
  obtain ⟨c8, l8, rfl, k8⟩ := len_succ k7
  obtain ⟨c9, l9, rfl, k9⟩ := len_succ k8
  obtain rfl := List.eq_nil_of_length_eq_zero k9
  obtain ⟨id, e, w_id⟩ := (hall 0 0 1 _ rfl rfl).int Tryz.underlying3
  obtain rfl : c0 = _ := one_eq e
  obtain ⟨qr, e⟩ := (hall 1 1 1 _ rfl rfl).bool Tryz.underlying4
  obtain rfl : c1 = _ := one_eq e
  obtain ⟨op, e, w_op⟩ := (hall 2 2 1 _ rfl rfl).int Tryz.underlying3
  obtain rfl : c2 = _ := one_eq e
  obtain ⟨aa, e⟩ := (hall 3 3 1 _ rfl rfl).bool Tryz.underlying4
  obtain rfl : c3 = _ := one_eq e
  obtain ⟨tc, e⟩ := (hall 4 4 1 _ rfl rfl).bool Tryz.underlying4
  obtain rfl : c4 = _ := one_eq e
  obtain ⟨rd, e⟩ := (hall 5 5 1 _ rfl rfl).bool Tryz.underlying4
  obtain rfl : c5 = _ := one_eq e
  obtain ⟨ra, e⟩ := (hall 6 6 1 _ rfl rfl).bool Tryz.underlying4
  obtain rfl : c6 = _ := one_eq e
  obtain ⟨ad, e⟩ := (hall 7 7 1 _ rfl rfl).bool Tryz.underlying4
  obtain rfl : c7 = _ := one_eq e
  obtain ⟨cd, e⟩ := (hall 8 8 1 _ rfl rfl).bool Tryz.underlying4
  obtain rfl : c8 = _ := one_eq e
  obtain ⟨rc, e, w_rc⟩ := (hall 9 9 1 _ rfl rfl).int Tryz.underlying3
  obtain rfl : c9 = _ := one_eq e
  exact ⟨⟨id, qr, op, aa, tc, rd, ra, ad, cd, rc⟩, rfl⟩
theorem open_msg (h : Rd enc Tryz.prog w base 30 cs) : ∃ M : Mg, cs = M.cells ∧ MgAt w M ∧ MgHeld M := by
  obtain ⟨hlen, hall⟩ := h.fldT Tryz.underlying30 (p := (0, 10)) rfl
  rw [cellsOf_run Tryz.sizeOf30] at hlen
  have hcs : cs = (cs.drop 0).take 10 ++ (cs.drop 10) := by rw [List.drop_zero, List.take_append_drop]
  obtain ⟨g, hg⟩ := open_hd (hall 0 0 10 _ rfl rfl)
  obtain ⟨vq, qs, eq, hq1, hq2, hq3⟩ := open_qs (hall 1 10 1 _ rfl rfl)
  obtain ⟨va, an, ea, ha1, ha2, ha3⟩ := open_recs (hall 2 11 1 _ rfl rfl)
  obtain ⟨vu, au, eu, hu1, hu2, hu3⟩ := open_recs (hall 3 12 1 _ rfl rfl)
  obtain ⟨ve, ex, ee, he1, he2, he3⟩ := open_recs (hall 4 13 1 _ rfl rfl)
  rw [hg] at hcs
  obtain ⟨tl, htl⟩ : ∃ tl, tl = cs.drop 10 := ⟨_, rfl⟩
  have htn : tl.length = 4 := by rw [htl, List.length_drop, hlen]
  have hd1 : ∀ k, cs.drop (10 + k) = tl.drop k := fun k => by rw [htl, List.drop_drop]
  rw [show (10 : Nat) = 10 + 0 from rfl, hd1 0] at eq
  rw [show (11 : Nat) = 10 + 1 from rfl, hd1 1] at ea
  rw [show (12 : Nat) = 10 + 2 from rfl, hd1 2] at eu
  rw [show (13 : Nat) = 10 + 3 from rfl, hd1 3] at ee
  rw [← htl] at hcs
  clear htl hd1 hall hlen hg
  obtain ⟨c0, l0, rfl, k0⟩ := len_succ htn
  obtain ⟨c1, l1, rfl, k1⟩ := len_succ k0
  obtain ⟨c2, l2, rfl, k2⟩ := len_succ k1
  obtain ⟨c3, l3, rfl, k3⟩ := len_succ k2
  obtain rfl := List.eq_nil_of_length_eq_zero k3
  obtain rfl : c0 = _ := one_eq eq
  obtain rfl : c1 = _ := one_eq ea
  obtain rfl : c2 = _ := one_eq eu
  obtain rfl : c3 = _ := one_eq ee
  refine ⟨⟨g, c0, qs, c1, an, c2, au, c3, ex⟩, hcs, ⟨hq1, fun x hx => ?_⟩, hq2, hq3, fun x hx => ?_⟩
  · rcases List.mem_cons.1 hx with rfl | hx
    · exact ha1
    · rcases List.mem_cons.1 hx with rfl | hx
      · exact hu1
      · rw [List.mem_singleton] at hx; subst hx; exact he1
  · rcases List.mem_cons.1 hx with rfl | hx
    · exact ⟨ha2, ha3⟩
    · rcases List.mem_cons.1 hx with rfl | hx
      · exact ⟨hu2, hu3⟩
      · rw [List.mem_singleton] at hx; subst hx; exact ⟨he2, he3⟩
theorem open_msgs (h : Rd enc Tryz.prog w base 22 cs) : ∃ v ms, cs = [v] ∧ MsAt w v ms ∧ ms.length ≤ 140737488351232 ∧ ∀ M ∈ ms, MgHeld M := by
  obtain ⟨v, L, rfl, h1, _, hb, h3⟩ := h.sl Tryz.underlying22 (cellsOf_run Tryz.sizeOf30)
  have hby : Tryz.prog.bytesOf 30 = 136 := by kernel_rfl
  rw [hby] at hb
  obtain ⟨ms, h4, h5, h6⟩ := list_mapN Mg.cells (fun M => MgAt w M ∧ MgHeld M) L fun l hl => open_msg (h3 l hl).2
  exact ⟨v, ms, rfl, ⟨by rw [h5]; show Sl w 14 v _ (ms.flatMap Mg.cells); rw [← h4]; exact h1, fun M hM => (h6 M hM).1⟩, by rw [h5]; omega, fun M hM => (h6 M hM).2⟩
end
end Go.Proofs.YtahpiaaffeiadaaGreat
