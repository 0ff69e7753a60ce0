/- wayfinderlaw22.LotDraws answers true for all draws and all sides, and leaves all that lay there. No condition. -/
import Derived.Test.YtccppgpedlfjdaaWky
import Derived.Test.YtccppgpedlfjdaaLot
import Derived.Test.YtccppgpedlfjdaaRows
namespace Go.Proofs.Ytccppgpedlfjdaa
open Go Go.RowKit Go.ChangeShapes Go.WideShapes Go.ChangeAt

theorem Try.own : ownKnob Try.prog.godebug = none := by kernel_rfl
theorem Try.laidOut : laidOutB Try.prog = true := by kernel_rfl

theorem open_ints22 {H : Type} {enc : TypeId × Value → H} {w : World} {base b0 : Nat} {spare : Nat → Bool} {held : Bool} {r : Reach} {v : Value} {d : DataW H} {p : List MemPlace} (hv : Value.okWide Try.prog w r b0 22 v)
    (h : DataW.Trod enc Try.prog w base spare held 22 v d p) : ∃ xs : List Int, Sl w 1 v xs.length (ints xs) ∧ ∀ i ∈ xs, (Lit.int .i64 i).wf = true := by
  obtain ⟨a, len, cap, rfl⟩ := okWide_slice Try.underlying22 hv
  obtain ⟨fuel, hf⟩ := h
  obtain ⟨v, xs, he, h1, _, h2⟩ := ints_open Try.underlying22 Try.underlying3 (cellsOf_run Try.sizeOf3) hf
  have he' : [Value.slice a len cap] = [v] := he
  simp only [List.cons.injEq, and_true] at he'
  subst he'
  exact ⟨xs, h1, h2⟩
theorem i64_le {i : Int} (h : (Lit.int .i64 i).wf = true) : -9223372036854775808 ≤ i ∧ i ≤ 9223372036854775807 := by
  simp [Lit.wf, IntKind.min, IntKind.max, IntKind.bits, IntKind.signed] at h
  omega

set_option maxRecDepth 100000 in
theorem lotDraws_lifted (os : Os) (started : os.Started) (H : Type) (enc : TypeId × Value → H) :
    ReturnsInHanded {} Try.checked os 3 .any (Rows.lotDrawsSpec.pre6 enc Try.prog Try.f3 Rows.lotDrawsRow.domain false) (Rows.lotDrawsSpec.post enc Try.prog Try.f3 false true false false) := by
  refine returnsInHanded_of_change (C := Try.checked) Try.own started (by kernel_rfl) Try.func3
    (ChangeSpec.witness6 (enc := enc) (C := Try.checked) false ⟨#[], #[zT22, zT22], []⟩ 8 (by kernel_rfl) (by kernel_rfl) (by kernel_rfl) (by kernel_rfl)) ?_
  intro W base args ds gs before hval0 hW hcnd _
  have hval : ∀ (j : Nat) t v, Try.f3.params[j]? = some t → args[j]? = some v → Value.okWide Try.prog W .any base t v := hval0
  have hW' := hW
  obtain ⟨p, q, hA0, hV, rfl, hfz, hnd⟩ := hW
  have hA : DataW.TrodAll enc Try.prog W 0 (fun _ => true) true Try.f3.params.toList args.toList ds p := hA0
  rw [Try.params3] at hA hval
  obtain ⟨v0, v1, d0, d1, p0, p1, rfl, rfl, rfl, h0, h1⟩ := trodAll_two hA
  obtain ⟨rfl, rfl⟩ := trodVars_none hV
  obtain ⟨xs, hs0, hx0⟩ := open_ints22 (hval 0 22 v0 rfl rfl) h0
  obtain ⟨ys, hs1, hx1⟩ := open_ints22 (hval 1 22 v1 rfl rfl) h1
  have law := law22a xs ys v0 v1 W hs0 hs1 (fun k hk => (i64_le (hx1 _ (by simp [List.getD, List.getElem?_eq_getElem hk]))).2)
  refine Calls.mono law fun e W' ⟨v, he, hv, hE⟩ => ?_
  subst he; subst hv
  exact ⟨_, rfl, law_post Try.laidOut (by
    intro t ht
    have ht' : t ∈ [22, 22] := ht
    simp only [List.mem_cons, List.not_mem_nil, or_false] at ht'
    rcases ht' with rfl | rfl <;> exact ⟨by kernel_rfl, of_decide_eq_true (by kernel_rfl)⟩) rfl Try.underlying4 rfl hW' rfl hE⟩

theorem lotDraws_holds : Rows.LotDrawsSaid :=
  OpenClaim.holds_of_wide 3 Try.f3 rfl rfl rfl rfl rfl rfl rfl ⟨rfl, rfl, rfl, rfl, rfl⟩ rfl rfl rfl rfl rfl (by kernel_rfl) Try.func3 (by kernel_rfl)
    (of_decide_eq_true (by kernel_rfl)) (by unfold Func.isWrapper; first | (rw [if_pos (by decide +kernel)]; kernel_rfl) | (rw [if_neg (by decide +kernel)]; exact ⟨rfl, rfl⟩))
    (fun os started H enc _ => lotDraws_lifted os started H enc)
#print axioms lotDraws_holds
end Go.Proofs.Ytccppgpedlfjdaa
