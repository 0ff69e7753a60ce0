/- wayfinderlaw41.WeighKeeps answers true for all targets and all draws, and leaves all that lay there. No condition. -/
import Derived.Test.YtccppgpedlfjdaaLotDraws
import Derived.Test.YtccppgpedlfjdaaWkx
import Derived.Test.YtccppgpedlfjdaaBop
import Derived.Test.YtccppgpedlfjdaaWkl5
import Derived.Test.YtccppgpedlfjdaaRows
namespace Go.Proofs.Ytccppgpedlfjdaa
open Go Go.RowKit Go.ChangeShapes Go.WideShapes Go.ChangeAt

set_option maxRecDepth 100000 in
theorem weighKeeps_lifted (os : Os) (started : os.Started) (H : Type) (enc : TypeId × Value → H) :
    ReturnsInHanded {} Try.checked os 5 .any (Rows.weighKeepsSpec.pre6 enc Try.prog Try.f5 Rows.weighKeepsRow.domain false) (Rows.weighKeepsSpec.post enc Try.prog Try.f5 false true false false) := by
  refine returnsInHanded_of_change_sized (C := Try.checked) Try.own started (by kernel_rfl) Try.func5
    (ChangeSpec.witness6 (enc := enc) (C := Try.checked) false ⟨#[], #[zT33, zT22], []⟩ 8 (by kernel_rfl) (by kernel_rfl) (by kernel_rfl) (by kernel_rfl)) ?_
  intro W base args ds gs before hval0 hW hcnd hz _
  have hval : ∀ (j : Nat) t v, Try.f5.params[j]? = some t → args[j]? = some v → Value.okWide Try.prog W .any base t v := hval0
  have hW' := hW
  obtain ⟨p, q, hA0, hV, rfl, hfz, hnd⟩ := hW
  have hA : DataW.TrodAll enc Try.prog W 0 (fun _ => true) true Try.f5.params.toList args.toList ds p := hA0
  rw [Try.params5] at hA hval hz
  obtain ⟨v0, v1, d0, d1, p0, p1, rfl, rfl, rfl, h0, h1⟩ := trodAll_two hA
  obtain ⟨rfl, rfl⟩ := trodVars_none hV
  obtain ⟨a0, l0, c0, rfl⟩ := okWide_slice Try.underlying33 (hval 0 33 v0 rfl rfl)
  obtain ⟨v0', rs, e0, hr, hh, hwf⟩ := open_recs (Rd.arg hz 0 rfl rfl h0)
  obtain rfl : Value.slice a0 l0 c0 = v0' := one_eq e0
  obtain ⟨xs, hs1, hx1⟩ := open_ints22 (hval 1 22 v1 rfl rfl) h1
  have law := law_keeps rs _ xs _ W hr hh hwf hs1
  refine Calls.mono law fun e W' ⟨v, he, hv, hE⟩ => ?_
  subst he; subst hv
  exact ⟨_, rfl, law_post Try.laidOut (by
    intro t ht
    have ht' : t ∈ [33, 22] := ht
    simp only [List.mem_cons, List.not_mem_nil, or_false] at ht'
    rcases ht' with rfl | rfl <;> exact ⟨by kernel_rfl, of_decide_eq_true (by kernel_rfl)⟩) rfl Try.underlying4 rfl hW' rfl hE⟩

theorem weighKeeps_holds : Rows.WeighKeepsSaid :=
  OpenClaim.holds_of_wide 5 Try.f5 rfl rfl rfl rfl rfl rfl rfl ⟨rfl, rfl, rfl, rfl, rfl⟩ rfl rfl rfl rfl rfl (by kernel_rfl) Try.func5 (by kernel_rfl)
    (of_decide_eq_true (by kernel_rfl)) (by unfold Func.isWrapper; first | (rw [if_pos (by decide +kernel)]; kernel_rfl) | (rw [if_neg (by decide +kernel)]; exact ⟨rfl, rfl⟩))
    (fun os started H enc _ => weighKeeps_lifted os started H enc)
#print axioms weighKeeps_holds
end Go.Proofs.Ytccppgpedlfjdaa
