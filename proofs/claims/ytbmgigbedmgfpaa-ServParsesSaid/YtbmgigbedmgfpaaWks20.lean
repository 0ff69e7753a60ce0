/- The law's own check of services. -/
import Derived.Test.YtbmgigbedmgfpaaFnf
namespace Go.Proofs.Ytbmgigbedmgfpaa
open Go Go.RowKit
theorem prs_works : prsB [100, 111, 109, 97, 105, 110, 32, 53, 51, 47, 117, 100, 112, 32, 100, 110, 115] = [⟨[[100, 111, 109, 97, 105, 110], [100, 110, 115]], 53, 17⟩] := by kernel_rfl
/-- Services that were read, as they are looked at. -/
theorem sv_at {w : World} {base e : Nat} {v : Value} {X : List Sv} {p : Nat → Prop} (h : w.ownsRow base e 3 v X.length (X.flatMap svV)) (hS : SvOk p w X) (hl : ∀ s ∈ X.map Prod.snd, s.names.length ≤ 1000000) : SvAt w v X :=
  ⟨own_sl h, fun x hx => ⟨(hS x hx).1, hl _ (List.mem_map_of_mem hx)⟩⟩
theorem works20 (w : World) : Ret Try.prog 10 #[] w fun v w' => v = .bool true ∧ Ext w w' := by
  have hE0 := Ext.refl w
  refine Ret.body (args := []) Try.func10 rfl Try.ntmps10 rfl ?_
  refine Cd.seq ?_
  refine Cd.region ?_
  refine Seg.step rfl rfl (Yd.assign rfl) ?_
  refine Seg.nil ?_
  refine At.then_ ?_
  refine Cd.seq ?_
  refine Cd.region ?_
  (refine Seg.call rfl rfl (own_of rfl) rfl (parse_any [100, 111, 109, 97, 105, 110, 32, 53, 51, 47, 117, 100, 112, 32, 100, 110, 115] _ (by decide)) ?_; rintro v w8 ⟨⟨X, hO, hS, hX⟩, hE8⟩; rw [prs_works] at hX; have hA := sv_at hO hS (by rw [hX]; decide); have hXl : X.length = 1 := (by have := congrArg List.length hX; simpa using this); obtain ⟨av, cv, rfl⟩ := own_shape hO)
  replace hE0 := Ext.trans hE0 hE8
  refine Seg.step rfl rfl (Yd.assign rfl) ?_
  refine Seg.nil ?_
  refine At.then_ ?_
  refine Cd.seq ?_
  refine Cd.region ?_
  refine Seg.step rfl rfl (Yd.move rfl) ?_
  (refine Seg.call rfl rfl (own_of rfl) rfl (find_any X [100, 110, 115] 17 _ _ hA (by omega)) ?_; rw [hX]; rintro _ w15 ⟨rfl, hE15⟩)
  replace hE8 := Ext.trans hE8 hE15
  replace hO := own_ext hO hE15
  replace hS := hS.ext hE15
  replace hA := hA.ext hE15
  replace hE0 := Ext.trans hE0 hE15
  refine Seg.step rfl rfl (Yd.move rfl) ?_
  refine Seg.step rfl rfl (Yd.extract rfl rfl) ?_
  refine Seg.step rfl rfl (Yd.extract rfl rfl) ?_
  refine Seg.step rfl rfl (Yd.assign rfl) ?_
  refine Seg.step rfl rfl (Yd.assign rfl) ?_
  refine Seg.nil ?_
  refine At.then_ ?_
  refine Cd.seq ?_
  refine Cd.region ?_
  refine Seg.step rfl rfl (Yd.move rfl) ?_
  (refine Seg.call rfl rfl (own_of rfl) rfl (name_any X 53 0 _ _ hA (by omega)) ?_; rw [hX]; rintro _ w26 ⟨rfl, hE26⟩)
  replace hE15 := Ext.trans hE15 hE26
  replace hE8 := Ext.trans hE8 hE26
  replace hO := own_ext hO hE26
  replace hS := hS.ext hE26
  replace hA := hA.ext hE26
  replace hE0 := Ext.trans hE0 hE26
  refine Seg.step rfl rfl (Yd.move rfl) ?_
  refine Seg.step rfl rfl (Yd.extract rfl rfl) ?_
  refine Seg.step rfl rfl (Yd.extract rfl rfl) ?_
  refine Seg.step rfl rfl (Yd.assign rfl) ?_
  refine Seg.step rfl rfl (Yd.assign rfl) ?_
  refine Seg.nil ?_
  refine At.then_ ?_
  refine Cd.seq ?_
  refine Cd.region ?_
  refine Seg.step rfl rfl (Yd.move rfl) ?_
  refine Seg.step rfl rfl (Yd.lenS rfl rfl) ?_
  refine Seg.step rfl rfl (Yd.eql rfl rfl) ?_
  refine Seg.step rfl rfl (Yd.move rfl) ?_
  refine Seg.gsplitp rfl rfl (fun h40 => ?_) (fun h40 => ?_)
  · refine Seg.step rfl rfl (Yd.move rfl) ?_
    refine Seg.step rfl rfl (Yd.eql rfl rfl) ?_
    refine Seg.step rfl rfl (Yd.pickT rfl rfl) ?_
    refine Seg.step rfl rfl (Yd.move rfl) ?_
    refine Seg.step rfl rfl (Yd.move rfl) ?_
    refine Seg.step rfl rfl (Yd.pickT rfl rfl) ?_
    refine Seg.step rfl rfl (Yd.move rfl) ?_
    refine Seg.step rfl rfl (Yd.move rfl) ?_
    refine Seg.step rfl rfl (Yd.eqlS rfl rfl) ?_
    refine Seg.step rfl rfl (Yd.pickT rfl rfl) ?_
    refine Seg.step rfl rfl (Yd.move rfl) ?_
    refine Seg.step rfl rfl (Yd.move rfl) ?_
    refine Seg.step rfl rfl (Yd.pickT rfl rfl) ?_
    refine Seg.step rfl rfl (Yd.assign rfl) ?_
    refine Seg.nil ?_
    refine At.then_ ?_
    refine Cd.ret ?_
    exact At.ret Try.results10 (.tmp rfl .nil) ⟨rfl, by assumption⟩
  · exfalso; omega
end Go.Proofs.Ytbmgigbedmgfpaa
