/- wayfinderlaw26.ChainEnds answers true for every question and all records, and leaves all that lay there. No condition. -/
import Derived.Test.YtidhelgoopdloaaOpn
import Derived.Test.YtidhelgoopdloaaChe
import Derived.Test.YtidhelgoopdloaaRows
namespace Go.Proofs.Ytidhelgoopdloaa
open Go Go.RowKit Go.ChangeShapes Go.WideShapes Go.ChangeAt

theorem Try.own : ownKnob Try.prog.godebug = none := by kernel_rfl
theorem Try.laidOut : laidOutB Try.prog = true := by kernel_rfl

set_option maxRecDepth 100000 in
theorem chainEnds_lifted (os : Os) (started : os.Started) (H : Type) (enc : TypeId × Value → H) :
    ReturnsInHanded {} Try.checked os 5 .any (Rows.chainEndsSpec.pre6 enc Try.prog Try.f5 Rows.chainEndsRow.domain false) (Rows.chainEndsSpec.post enc Try.prog Try.f5 false true false false) := by
  refine returnsInHanded_of_change_sized (C := Try.checked) Try.own started (by kernel_rfl) Try.func5
    (ChangeSpec.witness6 (enc := enc) (C := Try.checked) false ⟨#[], #[zT30, zT31], []⟩ 8 (by kernel_rfl) (by kernel_rfl) (by kernel_rfl) (by kernel_rfl)) ?_
  intro W base args ds gs before hval0 hW hcnd hz _
  have hval : ∀ (j : Nat) t v, Try.f5.params[j]? = some t → args[j]? = some v → Value.okWide Try.prog W .any base t v := hval0
  have hW' := hW
  obtain ⟨p, q, hA0, hV, rfl, hfz, hnd⟩ := hW
  have hA : DataW.TrodAll enc Try.prog W 0 (fun _ => true) true Try.f5.params.toList args.toList ds p := hA0
  rw [Try.params5] at hA hval hz
  obtain ⟨v0, v1, d0, d1, p0, p1, rfl, rfl, rfl, h0, h1⟩ := trodAll_two hA
  obtain ⟨rfl, rfl⟩ := trodVars_none hV
  obtain ⟨cs0, rfl, _⟩ := okWide_struct Try.underlying30 (hval 0 30 v0 rfl rfl)
  obtain ⟨vq, qn, qt, qc, e0, hn, hq⟩ := open_question (Rd.arg hz 0 rfl rfl h0)
  obtain ⟨a1, l1, c1, rfl⟩ := okWide_slice Try.underlying31 (hval 1 31 v1 rfl rfl)
  obtain ⟨v1', rs, e1, hr, hh⟩ := open_recs (Rd.arg hz 1 rfl rfl h1)
  obtain rfl : cs0 = #[vq, .int .i64 qt, .int .i64 qc] := Array.toList_inj.1 e0
  obtain rfl : Value.slice a1 l1 c1 = v1' := one_eq e1
  have law := law26b rs qn vq _ qt qc W hr hn hh hq
  refine Calls.mono law fun e W' ⟨v, he, hv, hE⟩ => ?_
  subst he; subst hv
  exact ⟨_, rfl, law_post Try.laidOut (by
    intro t ht
    have ht' : t ∈ [30, 31] := ht
    simp only [List.mem_cons, List.not_mem_nil, or_false] at ht'
    rcases ht' with rfl | rfl <;> exact ⟨by kernel_rfl, of_decide_eq_true (by kernel_rfl)⟩) rfl Try.underlying4 rfl hW' rfl hE⟩

theorem chainEnds_holds : Rows.ChainEndsSaid :=
  OpenClaim.holds_of_wide 5 Try.f5 rfl rfl rfl rfl rfl rfl rfl ⟨rfl, rfl, rfl, rfl, rfl⟩ rfl rfl rfl rfl rfl (by kernel_rfl) Try.func5 (by kernel_rfl)
    (of_decide_eq_true (by kernel_rfl)) (by unfold Func.isWrapper; first | (rw [if_pos (by decide +kernel)]; kernel_rfl) | (rw [if_neg (by decide +kernel)]; exact ⟨rfl, rfl⟩))
    (fun os started H enc _ => chainEnds_lifted os started H enc)
#print axioms chainEnds_holds
end Go.Proofs.Ytidhelgoopdloaa
