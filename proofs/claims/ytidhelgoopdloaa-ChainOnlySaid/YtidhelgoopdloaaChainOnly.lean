/- wayfinderlaw26.ChainOnly answers true for every question, all records and every other record, and leaves all that lay there. No condition. -/
import Derived.Test.YtidhelgoopdloaaOpn
import Derived.Test.YtidhelgoopdloaaCho
import Derived.Test.YtidhelgoopdloaaRows
namespace Go.Proofs.Ytidhelgoopdloaa
open Go Go.RowKit Go.ChangeShapes Go.WideShapes Go.ChangeAt

theorem Try.own : ownKnob Try.prog.godebug = none := by kernel_rfl
theorem Try.laidOut : laidOutB Try.prog = true := by kernel_rfl

set_option maxRecDepth 100000 in
theorem chainOnly_lifted (os : Os) (started : os.Started) (H : Type) (enc : TypeId × Value → H) :
    ReturnsInHanded {} Try.checked os 4 .any (Rows.chainOnlySpec.pre6 enc Try.prog Try.f4 Rows.chainOnlyRow.domain false) (Rows.chainOnlySpec.post enc Try.prog Try.f4 false true false false) := by
  refine returnsInHanded_of_change_sized (C := Try.checked) Try.own started (by kernel_rfl) Try.func4
    (ChangeSpec.witness6 (enc := enc) (C := Try.checked) false ⟨#[], #[zT30, zT31, zT37], []⟩ 8 (by kernel_rfl) (by kernel_rfl) (by kernel_rfl) (by kernel_rfl)) ?_
  intro W base args ds gs before hval0 hW hcnd hz _
  have hval : ∀ (j : Nat) t v, Try.f4.params[j]? = some t → args[j]? = some v → Value.okWide Try.prog W .any base t v := hval0
  have hW' := hW
  obtain ⟨p, q, hA0, hV, rfl, hfz, hnd⟩ := hW
  have hA : DataW.TrodAll enc Try.prog W 0 (fun _ => true) true Try.f4.params.toList args.toList ds p := hA0
  rw [Try.params4] at hA hval hz
  obtain ⟨v0, v1, v2, d0, d1, d2, p0, p1, p2, rfl, rfl, rfl, h0, h1, h2⟩ := trodAll_three hA
  obtain ⟨rfl, rfl⟩ := trodVars_none hV
  obtain ⟨cs0, rfl, _⟩ := okWide_struct Try.underlying30 (hval 0 30 v0 rfl rfl)
  obtain ⟨vq, qn, qt, qc, e0, hn, hq⟩ := open_question (Rd.arg hz 0 rfl rfl h0)
  obtain ⟨a1, l1, c1, rfl⟩ := okWide_slice Try.underlying31 (hval 1 31 v1 rfl rfl)
  obtain ⟨v1', rs, e1, hr, hh, hw⟩ := open_recs (Rd.arg hz 1 rfl rfl h1)
  obtain rfl : cs0 = #[vq, .int .i64 qt, .int .i64 qc] := Array.toList_inj.1 e0
  obtain rfl : Value.slice a1 l1 c1 = v1' := one_eq e1
  obtain ⟨ao, m, c, e2, hcap⟩ := Rd.cap (v := .slice a1 l1 c1) (Rd.arg hz 1 rfl rfl h1) Try.underlying31
  cases e2
  obtain ⟨_, _, e3, _⟩ := hr.1
  cases e3
  obtain ⟨cs2, rfl, _⟩ := okWide_struct Try.underlying37 (hval 2 37 v2 rfl rfl)
  obtain ⟨o, e4, ho, hho, _⟩ := open_rec (Rd.arg hz 2 rfl rfl h2)
  obtain rfl : cs2 = o.cells.toArray := Array.toList_inj.1 e4
  have law := law26a rs qn vq _ _ hcap qt qc o W hr hn ho hh hho hq hw
  refine Calls.mono law fun e W' ⟨v, he, hv, hE⟩ => ?_
  subst he; subst hv
  exact ⟨_, rfl, law_post Try.laidOut (by
    intro t ht
    have ht' : t ∈ [30, 31, 37] := ht
    simp only [List.mem_cons, List.not_mem_nil, or_false] at ht'
    rcases ht' with rfl | rfl | rfl <;> exact ⟨by kernel_rfl, of_decide_eq_true (by kernel_rfl)⟩) rfl Try.underlying4 rfl hW' rfl hE⟩

theorem chainOnly_holds : Rows.ChainOnlySaid :=
  OpenClaim.holds_of_wide 4 Try.f4 rfl rfl rfl rfl rfl rfl rfl ⟨rfl, rfl, rfl, rfl, rfl⟩ rfl rfl rfl rfl rfl (by kernel_rfl) Try.func4 (by kernel_rfl)
    (of_decide_eq_true (by kernel_rfl)) (by unfold Func.isWrapper; first | (rw [if_pos (by decide +kernel)]; kernel_rfl) | (rw [if_neg (by decide +kernel)]; exact ⟨rfl, rfl⟩))
    (fun os started H enc _ => chainOnly_lifted os started H enc)
#print axioms chainOnly_holds
end Go.Proofs.Ytidhelgoopdloaa
