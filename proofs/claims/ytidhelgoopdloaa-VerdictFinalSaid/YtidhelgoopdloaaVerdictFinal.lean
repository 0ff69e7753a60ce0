/- wayfinderlaw27.VerdictFinal answers true for every question, every head and all records, and leaves all that lay there. No condition. -/
import Derived.Test.YtidhelgoopdloaaOpn
import Derived.Test.YtidhelgoopdloaaVfj
import Derived.Test.YtidhelgoopdloaaRows
namespace Go.Proofs.Ytidhelgoopdloaa
open Go Go.RowKit Go.ChangeShapes Go.WideShapes Go.ChangeAt

theorem Try.own : ownKnob Try.prog.godebug = none := by kernel_rfl
theorem Try.laidOut : laidOutB Try.prog = true := by kernel_rfl
theorem open_hd {H : Type} {enc : TypeId × Value → H} {w : World} {base : Nat} {cs : List Value} (h : Rd enc Try.prog w base 23 cs) : ∃ h : Hd, cs = h.cells ∧ WfH h := by
  obtain ⟨hlen, hall⟩ := h.fldT Try.underlying23 (p := (0, 1)) rfl
  rw [cellsOf_run Try.sizeOf23] at hlen
  obtain ⟨c0, l0, rfl, k0⟩ := len_succ hlen
  obtain ⟨c1, l1, rfl, k1⟩ := len_succ k0
  obtain ⟨c2, l2, rfl, k2⟩ := len_succ k1
  obtain ⟨c3, l3, rfl, k3⟩ := len_succ k2
  obtain ⟨c4, l4, rfl, k4⟩ := len_succ k3
  obtain ⟨c5, l5, rfl, k5⟩ := len_succ k4
  obtain ⟨c6, l6, rfl, k6⟩ := len_succ k5
  obtain ⟨c7, l7, rfl, k7⟩ := len_succ k6
  obtain ⟨c8, l8, rfl, k8⟩ := len_succ k7
  obtain ⟨c9, l9, rfl, k9⟩ := len_succ k8
  obtain rfl := List.eq_nil_of_length_eq_zero k9
  obtain ⟨id, e, w_id⟩ := (hall 0 0 1 _ rfl rfl).int Try.underlying3
  obtain rfl : c0 = _ := one_eq e
  obtain ⟨qr, e⟩ := (hall 1 1 1 _ rfl rfl).bool Try.underlying4
  obtain rfl : c1 = _ := one_eq e
  obtain ⟨op, e, w_op⟩ := (hall 2 2 1 _ rfl rfl).int Try.underlying3
  obtain rfl : c2 = _ := one_eq e
  obtain ⟨aa, e⟩ := (hall 3 3 1 _ rfl rfl).bool Try.underlying4
  obtain rfl : c3 = _ := one_eq e
  obtain ⟨tc, e⟩ := (hall 4 4 1 _ rfl rfl).bool Try.underlying4
  obtain rfl : c4 = _ := one_eq e
  obtain ⟨rd, e⟩ := (hall 5 5 1 _ rfl rfl).bool Try.underlying4
  obtain rfl : c5 = _ := one_eq e
  obtain ⟨ra, e⟩ := (hall 6 6 1 _ rfl rfl).bool Try.underlying4
  obtain rfl : c6 = _ := one_eq e
  obtain ⟨ad, e⟩ := (hall 7 7 1 _ rfl rfl).bool Try.underlying4
  obtain rfl : c7 = _ := one_eq e
  obtain ⟨cd, e⟩ := (hall 8 8 1 _ rfl rfl).bool Try.underlying4
  obtain rfl : c8 = _ := one_eq e
  obtain ⟨rc, e, w_rc⟩ := (hall 9 9 1 _ rfl rfl).int Try.underlying3
  obtain rfl : c9 = _ := one_eq e
  exact ⟨⟨id, qr, op, aa, tc, rd, ra, ad, cd, rc⟩, rfl, w_id, w_op, w_rc⟩

set_option maxRecDepth 100000 in
theorem verdictFinal_lifted (os : Os) (started : os.Started) (H : Type) (enc : TypeId × Value → H) :
    ReturnsInHanded {} Try.checked os 6 .any (Rows.verdictFinalSpec.pre6 enc Try.prog Try.f6 Rows.verdictFinalRow.domain false) (Rows.verdictFinalSpec.post enc Try.prog Try.f6 false true false false) := by
  refine returnsInHanded_of_change_sized (C := Try.checked) Try.own started (by kernel_rfl) Try.func6
    (ChangeSpec.witness6 (enc := enc) (C := Try.checked) false ⟨#[], #[zT30, zT23, zT31], []⟩ 8 (by kernel_rfl) (by kernel_rfl) (by kernel_rfl) (by kernel_rfl)) ?_
  intro W base args ds gs before hval0 hW hcnd hz _
  have hval : ∀ (j : Nat) t v, Try.f6.params[j]? = some t → args[j]? = some v → Value.okWide Try.prog W .any base t v := hval0
  have hW' := hW
  obtain ⟨p, q, hA0, hV, rfl, hfz, hnd⟩ := hW
  have hA : DataW.TrodAll enc Try.prog W 0 (fun _ => true) true Try.f6.params.toList args.toList ds p := hA0
  rw [Try.params6] at hA hval hz
  obtain ⟨v0, v1, v2, d0, d1, d2, p0, p1, p2, rfl, rfl, rfl, h0, h1, h2⟩ := trodAll_three hA
  obtain ⟨rfl, rfl⟩ := trodVars_none hV
  obtain ⟨cs0, rfl, _⟩ := okWide_struct Try.underlying30 (hval 0 30 v0 rfl rfl)
  obtain ⟨vq, qn, qt, qc, e0, hn, hq⟩ := open_question (Rd.arg hz 0 rfl rfl h0)
  obtain ⟨cs1, rfl, _⟩ := okWide_struct Try.underlying23 (hval 1 23 v1 rfl rfl)
  obtain ⟨hd, e1, hwh⟩ := open_hd (Rd.arg hz 1 rfl rfl h1)
  obtain ⟨a1, l1, c1, rfl⟩ := okWide_slice Try.underlying31 (hval 2 31 v2 rfl rfl)
  obtain ⟨v1', rs, e2, hr, hh, hw⟩ := open_recs (Rd.arg hz 2 rfl rfl h2)
  obtain rfl : cs0 = #[vq, .int .i64 qt, .int .i64 qc] := Array.toList_inj.1 e0
  obtain rfl : cs1 = hd.cells.toArray := Array.toList_inj.1 e1
  obtain rfl : Value.slice a1 l1 c1 = v1' := one_eq e2
  obtain ⟨_, _, e3, _⟩ := hr.1
  cases e3
  have law := law27b hd rs qn vq _ _ qt qc W hr hn hh hq hwh hw
  refine Calls.mono law fun e W' ⟨v, he, hv, hE⟩ => ?_
  subst he; subst hv
  exact ⟨_, rfl, law_post Try.laidOut (by
    intro t ht
    have ht' : t ∈ [30, 23, 31] := ht
    simp only [List.mem_cons, List.not_mem_nil, or_false] at ht'
    rcases ht' with rfl | rfl | rfl <;> exact ⟨by kernel_rfl, of_decide_eq_true (by kernel_rfl)⟩) rfl Try.underlying4 rfl hW' rfl hE⟩

theorem verdictFinal_holds : Rows.VerdictFinalSaid :=
  OpenClaim.holds_of_wide 6 Try.f6 rfl rfl rfl rfl rfl rfl rfl ⟨rfl, rfl, rfl, rfl, rfl⟩ rfl rfl rfl rfl rfl (by kernel_rfl) Try.func6 (by kernel_rfl)
    (of_decide_eq_true (by kernel_rfl)) (by unfold Func.isWrapper; first | (rw [if_pos (by decide +kernel)]; kernel_rfl) | (rw [if_neg (by decide +kernel)]; exact ⟨rfl, rfl⟩))
    (fun os started H enc _ => verdictFinal_lifted os started H enc)
#print axioms verdictFinal_holds
end Go.Proofs.Ytidhelgoopdloaa
