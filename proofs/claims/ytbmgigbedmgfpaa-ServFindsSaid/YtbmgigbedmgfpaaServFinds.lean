/- wayfinderlaw20.ServFinds answers true for all services, any name and any two numbers, and leaves all that lay there. No condition. -/
import Derived.Test.YtbmgigbedmgfpaaOsv
import Derived.Test.YtbmgigbedmgfpaaSfd
import Derived.Test.YtbmgigbedmgfpaaRows
namespace Go.Proofs.Ytbmgigbedmgfpaa
open Go Go.RowKit Go.ChangeShapes Go.WideShapes Go.ChangeAt

theorem Try.own : ownKnob Try.prog.godebug = none := by kernel_rfl
theorem Try.laidOut : laidOutB Try.prog = true := by kernel_rfl

set_option maxRecDepth 100000 in
theorem servFinds_lifted (os : Os) (started : os.Started) (H : Type) (enc : TypeId × Value → H) :
    ReturnsInHanded {} Try.checked os 5 .any (Rows.servFindsSpec.pre6 enc Try.prog Try.f5 Rows.servFindsRow.domain false) (Rows.servFindsSpec.post enc Try.prog Try.f5 false true false false) := by
  refine returnsInHanded_of_change_sized (C := Try.checked) Try.own started (by kernel_rfl) Try.func5
    (ChangeSpec.witness6 (enc := enc) (C := Try.checked) false ⟨#[], #[zT31, zT9, zT35], []⟩ 8 (by kernel_rfl) (by kernel_rfl) (by kernel_rfl) (by kernel_rfl)) ?_
  intro W base args ds gs before hval0 hW hcnd hz _
  have hval : ∀ (j : Nat) t v, Try.f5.params[j]? = some t → args[j]? = some v → Value.okWide Try.prog W .any base t v := hval0
  have hW' := hW
  obtain ⟨p, q, hA0, hV, rfl, hfz, hnd⟩ := hW
  have hA : DataW.TrodAll enc Try.prog W 0 (fun _ => true) true Try.f5.params.toList args.toList ds p := hA0
  rw [Try.params5] at hA hval hz
  obtain ⟨v0, v1, v2, d0, d1, d2, p0, p1, p2, rfl, rfl, rfl, h0, h1, h2⟩ := trodAll_three hA
  obtain ⟨rfl, rfl⟩ := trodVars_none hV
  obtain ⟨a0, l0, c0, rfl⟩ := okWide_slice Try.underlying31 (hval 0 31 v0 rfl rfl)
  obtain ⟨v0', X, e0, hX, hXl, hXn⟩ := open_svcs (Rd.arg hz 0 rfl rfl h0)
  obtain rfl : Value.slice a0 l0 c0 = v0' := one_eq e0
  obtain ⟨s1, rfl⟩ := okWide_string Try.underlying9 (hval 1 9 v1 rfl rfl)
  obtain ⟨b, e1, hb⟩ := (Rd.arg hz 1 rfl rfl h1).str Try.underlying9
  obtain rfl : s1 = _ := Value.string.inj (one_eq e1)
  obtain ⟨cs2, rfl⟩ : ∃ cs, v2 = .agg cs := by
    have h := hval 2 35 v2 rfl rfl
    simp only [Value.okWide, Try.underlying35] at h
    obtain ⟨cs, h, _⟩ := h
    exact ⟨cs, h⟩
  obtain ⟨xs, e2, hxl, _⟩ := (Rd.arg hz 2 rfl rfl h2).arrInts Try.underlying35 Try.underlying3 (cellsOf_run Try.sizeOf3) (cellsOf_run Try.sizeOf35)
  obtain ⟨x0, x1, rfl⟩ : ∃ x0 x1, xs = [x0, x1] := by
    rcases xs with _ | ⟨x0, _ | ⟨x1, _ | ⟨x2, r⟩⟩⟩ <;> simp at hxl
    exact ⟨x0, x1, rfl⟩
  obtain rfl : cs2 = #[.int .i64 x0, .int .i64 x1] := Array.toList_inj.1 e2
  have law := law_find X b x0 x1 _ W ⟨fun x hx => ⟨(hXn x hx).1, fun _ _ _ _ _ h => h⟩, hX⟩ (by omega) (by omega) (fun x hx => by have := (hXn x hx).2; omega)
  refine Calls.mono law fun e W' ⟨v, he, hv, hE⟩ => ?_
  subst he; subst hv
  exact ⟨_, rfl, law_post Try.laidOut (by
    intro t ht
    have ht' : t ∈ [31, 9, 35] := ht
    simp only [List.mem_cons, List.not_mem_nil, or_false] at ht'
    rcases ht' with rfl | rfl | rfl <;> exact ⟨by kernel_rfl, of_decide_eq_true (by kernel_rfl)⟩) rfl Try.underlying4 rfl hW' rfl hE⟩

theorem servFinds_holds : Rows.ServFindsSaid :=
  OpenClaim.holds_of_wide 5 Try.f5 rfl rfl rfl rfl rfl rfl rfl ⟨rfl, rfl, rfl, rfl, rfl⟩ rfl rfl rfl rfl rfl (by kernel_rfl) Try.func5 (by kernel_rfl)
    (of_decide_eq_true (by kernel_rfl)) (by unfold Func.isWrapper; first | (rw [if_pos (by decide +kernel)]; kernel_rfl) | (rw [if_neg (by decide +kernel)]; exact ⟨rfl, rfl⟩))
    (fun os started H enc _ => servFinds_lifted os started H enc)
#print axioms servFinds_holds
end Go.Proofs.Ytbmgigbedmgfpaa
