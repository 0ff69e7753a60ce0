/- wayfinderlaw27.VerdictOf answers true for every head and both flags, and leaves all that lay there. No condition. -/
import Derived.Test.YtidhelgoopdloaaWky
import Derived.Test.YtidhelgoopdloaaAx
import Derived.Test.YtidhelgoopdloaaRows
namespace Go.Proofs.Ytidhelgoopdloaa
open Go Go.RowKit Go.ChangeShapes Go.WideShapes Go.ChangeAt

theorem Try.own : ownKnob Try.prog.godebug = none := by kernel_rfl
theorem Try.laidOut : laidOutB Try.prog = true := by kernel_rfl

theorem open_head {H : Type} {enc : TypeId × Value → H} {w : World} {base b0 : Nat} {spare : Nat → Bool} {held : Bool} {r : Reach} {v : Value} {d : DataW H} {p : List MemPlace} (hv : Value.okWide Try.prog w r b0 23 v)
    (h : DataW.Trod enc Try.prog w base spare held 23 v d p) : ∃ (c0 c1 c2 c3 c5 c6 c7 c8 : Value) (tc : Bool) (rc : Int), v = .agg #[c0, c1, c2, c3, .bool tc, c5, c6, c7, c8, .int .i64 rc] := by
  obtain ⟨cs, rfl, _⟩ := okWide_struct Try.underlying23 hv
  obtain ⟨fuel, hf⟩ := h
  obtain ⟨hlen, hall⟩ := fld_trod (r := [(0, 1), (1, 1), (2, 1), (3, 1), (4, 1), (5, 1), (6, 1), (7, 1), (8, 1), (9, 1)]) Try.underlying23
    ⟨⟨rfl, Try.sizeOf3⟩, ⟨rfl, Try.sizeOf4⟩, ⟨rfl, Try.sizeOf3⟩, ⟨rfl, Try.sizeOf4⟩, ⟨rfl, Try.sizeOf4⟩, ⟨rfl, Try.sizeOf4⟩, ⟨rfl, Try.sizeOf4⟩, ⟨rfl, Try.sizeOf4⟩, ⟨rfl, Try.sizeOf4⟩, ⟨rfl, Try.sizeOf3⟩, trivial⟩ hf
  rw [cellsOf_run Try.sizeOf23] at hlen
  obtain ⟨l⟩ := cs
  simp only [Value.cells] at hlen hall
  obtain ⟨c0, l0, rfl, k0⟩ := len_succ hlen
  obtain ⟨c1, l1, rfl, k1⟩ := len_succ k0
  obtain ⟨c2, l2, rfl, k2⟩ := len_succ k1
  obtain ⟨c3, l3, rfl, k3⟩ := len_succ k2
  obtain ⟨c4, l4, rfl, k4⟩ := len_succ k3
  obtain ⟨c5, l5, rfl, k5⟩ := len_succ k4
  obtain ⟨c6, l6, rfl, k6⟩ := len_succ k5
  obtain ⟨c7, l7, rfl, k7⟩ := len_succ k6
  obtain ⟨c8, l8, rfl, k8⟩ := len_succ k7
  obtain ⟨c9, l9, rfl, k9⟩ := len_succ k8
  obtain rfl := List.eq_nil_of_length_eq_zero k9
  obtain ⟨n, y, h4⟩ := hall 4 4 1 _ rfl rfl
  obtain ⟨tc, ht⟩ := bool_trod Try.underlying4 h4
  obtain ⟨n, y, h9⟩ := hall 9 9 1 _ rfl rfl
  obtain ⟨rc, hr, _⟩ := int_trod Try.underlying3 h9
  simp at ht hr
  subst ht; subst hr
  exact ⟨_, _, _, _, _, _, _, _, _, _, rfl⟩

set_option maxRecDepth 100000 in
theorem verdictOf_lifted (os : Os) (started : os.Started) (H : Type) (enc : TypeId × Value → H) :
    ReturnsInHanded {} Try.checked os 3 .any (Rows.verdictOfSpec.pre6 enc Try.prog Try.f3 Rows.verdictOfRow.domain false) (Rows.verdictOfSpec.post enc Try.prog Try.f3 false true false false) := by
  refine returnsInHanded_of_change (C := Try.checked) Try.own started (by kernel_rfl) Try.func3
    (ChangeSpec.witness6 (enc := enc) (C := Try.checked) false ⟨#[], #[zT23, .bool false, .bool false], []⟩ 8 (by kernel_rfl) (by kernel_rfl) (by kernel_rfl) (by kernel_rfl)) ?_
  intro W base args ds gs before hval0 hW hcnd _
  have hval : ∀ (j : Nat) t v, Try.f3.params[j]? = some t → args[j]? = some v → Value.okWide Try.prog W .any base t v := hval0
  have hW' := hW
  obtain ⟨p, q, hA0, hV, rfl, hfz, hnd⟩ := hW
  have hA : DataW.TrodAll enc Try.prog W 0 (fun _ => true) true Try.f3.params.toList args.toList ds p := hA0
  rw [Try.params3] at hA hval
  obtain ⟨v0, v1, v2, d0, d1, d2, p0, p1, p2, rfl, rfl, rfl, h0, h1, h2⟩ := trodAll_three hA
  obtain ⟨rfl, rfl⟩ := trodVars_none hV
  obtain ⟨c0, c1, c2, c3, c5, c6, c7, c8, tc, rc, rfl⟩ := open_head (hval 0 23 v0 rfl rfl) h0
  obtain ⟨conn, rfl, rfl, rfl⟩ := open_bool Try.underlying4 (hval 1 4 v1 rfl rfl) h1
  obtain ⟨edns, rfl, rfl, rfl⟩ := open_bool Try.underlying4 (hval 2 4 v2 rfl rfl) h2
  refine Calls.mono (law27 c0 c1 c2 c3 c5 c6 c7 c8 tc conn edns rc W) fun e W' ⟨v, he, hv, hE⟩ => ?_
  subst he; subst hv
  exact ⟨_, rfl, law_post Try.laidOut (by
    intro t ht
    have ht' : t ∈ [23, 4, 4] := ht
    simp only [List.mem_cons, List.not_mem_nil, or_false] at ht'
    rcases ht' with rfl | rfl | rfl <;> exact ⟨by kernel_rfl, of_decide_eq_true (by kernel_rfl)⟩) rfl Try.underlying4 rfl hW' rfl hE⟩

theorem verdictOf_holds : Rows.VerdictOfSaid :=
  OpenClaim.holds_of_wide 3 Try.f3 rfl rfl rfl rfl rfl rfl rfl ⟨rfl, rfl, rfl, rfl, rfl⟩ rfl rfl rfl rfl rfl (by kernel_rfl) Try.func3 (by kernel_rfl)
    (of_decide_eq_true (by kernel_rfl)) (by unfold Func.isWrapper; first | (rw [if_pos (by decide +kernel)]; kernel_rfl) | (rw [if_neg (by decide +kernel)]; exact ⟨rfl, rfl⟩))
    (fun os started H enc _ => verdictOf_lifted os started H enc)
#print axioms verdictOf_holds
end Go.Proofs.Ytidhelgoopdloaa
