/- The law of joined services. -/
import Derived.Test.YtbmgigbedmgfpaaSsm
namespace Go.Proofs.Ytbmgigbedmgfpaa
open Go Go.RowKit
theorem prs_len (s : List UInt8) : (prsB s).length ≤ s.length + 1 := Nat.le_trans (List.length_filterMap_le _ _) (all_len true s)
theorem svc_names {fs : List (List UInt8)} {s : Svc} (h : svcB fs = some s) : s.names.length ≤ fs.length := by
  unfold svcB at h
  split at h
  · cases h
  · rename_i h2
    split at h
    · cases h
    · split at h
      · cases h
      · split at h
        · cases h
        · cases h
          simp; omega
theorem prs_names (t : List UInt8) : ∀ s ∈ prsB t, s.names.length ≤ 1000000 := fun s hs => by
  obtain ⟨y, hy, h⟩ := List.mem_filterMap.1 hs
  exact Nat.le_trans (svc_names h) (all_flds true (linesB t) 1 y hy)
theorem svV_one {w : World} {X : List Sv} {v : Value} (h : SvAt w v X) : ∀ c ∈ X.flatMap svV, c.oneCell' = true := fun c hc => by
  obtain ⟨x, hx, hc⟩ := List.mem_flatMap.1 hc
  obtain ⟨a, d, hv, -, -, -⟩ := (h.2 x hx).1
  simp only [svV, List.mem_cons, List.not_mem_nil, or_false] at hc
  rcases hc with rfl | rfl | rfl
  · rw [hv]; rfl
  · rfl
  · rfl
theorem law_sjoin (a b n : List UInt8) (w : World) (hab : a.length + b.length ≤ 4611686018427387904) (hn : n.length ≤ 4611686018427387904) :
    Ret Try.prog 6 #[.string ⟨a.toArray⟩, .string ⟨b.toArray⟩, .string ⟨n.toArray⟩] w fun r w' => r = .bool true ∧ Ext w w' := by
  have hE0 := Ext.refl w
  refine Ret.body Try.func6 rfl Try.ntmps6 rfl ?_
  by_cases hl : a.length + b.length ≤ 4000
  · by_cases hq : n.length ≤ 300
    · have la := prs_len a
      have lb := prs_len b
      have lz := prs_len (a ++ [10] ++ b)
      have lzz : (a ++ [10] ++ b).length = a.length + b.length + 1 := by simp; omega
      have lz1 : a.length + ([10] : List UInt8).length ≤ 9223372036854775807 := by simp; omega
      have lz2 : (a ++ [10]).length + b.length ≤ 9223372036854775807 := by simp; omega
      refine Cd.seq ?_
      refine Cd.region ?_
      refine Seg.step rfl rfl (Yd.assign rfl) ?_
      refine Seg.nil ?_
      refine At.then_ ?_
      refine Cd.seq ?_
      refine Cd.seq ?_
      refine Cd.region ?_
      (refine Seg.call rfl rfl (own_of rfl) rfl (works20 _) ?_; rintro _ w9 ⟨rfl, hE9⟩)
      replace hE0 := Ext.trans hE0 hE9
      refine Seg.step rfl rfl (Yd.not rfl) ?_
      refine Seg.step rfl rfl (Yd.move rfl) ?_
      refine Seg.step rfl rfl (Yd.move rfl) ?_
      refine Seg.step rfl rfl (Yd.lenStr rfl rfl) ?_
      refine Seg.step rfl rfl (Yd.move rfl) ?_
      refine Seg.step rfl rfl (Yd.lenStr rfl rfl) ?_
      refine Seg.step rfl rfl (Yd.addI rfl rfl (by omega)) ?_
      refine Seg.step rfl rfl (Yd.gtr rfl rfl) ?_
      refine Seg.step rfl rfl (Yd.pickF rfl rfl) ?_
      refine Seg.step rfl rfl (Yd.move rfl) ?_
      refine Seg.gsplitp rfl rfl (fun h20 => ?_) (fun h20 => ?_)
      · exfalso; omega
      refine Seg.step rfl rfl (Yd.move rfl) ?_
      refine Seg.step rfl rfl (Yd.lenStr rfl rfl) ?_
      refine Seg.step rfl rfl (Yd.gtr rfl rfl) ?_
      refine Seg.step rfl rfl (Yd.pickF rfl rfl) ?_
      refine Seg.nil ?_
      refine At.then_ ?_
      refine Cd.condk rfl (fun h28 => ?_) (fun h28 => ?_)
      · exfalso; omega
      refine Cd.skip ?_
      refine At.then_ ?_
      refine Cd.seq ?_
      refine Cd.region ?_
      refine Seg.step rfl rfl (Yd.move rfl) ?_
      (refine Seg.call rfl rfl (own_of rfl) rfl (parse_any a _ (by omega)) ?_; rintro vx w35 ⟨⟨X, hOx, hSx, hX⟩, hE35⟩; have hAx := sv_at hOx hSx (by rw [hX]; exact prs_names a); have hXl : X.length ≤ 5000 := (by have := congrArg List.length hX; rw [List.length_map] at this; omega))
      replace hE9 := Ext.trans hE9 hE35
      replace hE0 := Ext.trans hE0 hE35
      refine Seg.step rfl rfl (Yd.move rfl) ?_
      (refine Seg.call rfl rfl (own_of rfl) rfl (parse_any b _ (by omega)) ?_; rintro vy w37 ⟨⟨Y, hOy, hSy, hY⟩, hE37⟩; have hAy := sv_at hOy hSy (by rw [hY]; exact prs_names b); have hYl : Y.length ≤ 5000 := (by have := congrArg List.length hY; rw [List.length_map] at this; omega))
      replace hE35 := Ext.trans hE35 hE37
      replace hOx := own_ext hOx hE37
      replace hSx := hSx.ext hE37
      replace hAx := hAx.ext hE37
      replace hE9 := Ext.trans hE9 hE37
      replace hE0 := Ext.trans hE0 hE37
      refine Seg.step rfl rfl (Yd.move rfl) ?_
      (refine Seg.step rfl rfl (Yd.addS (l := a) (m := [10]) rfl rfl lz1) ?_)
      refine Seg.step rfl rfl (Yd.move rfl) ?_
      (refine Seg.step rfl rfl (Yd.addS (l := a ++ [10]) (m := b) rfl rfl lz2) ?_)
      (refine Seg.call rfl rfl (own_of rfl) rfl (parse_any (a ++ [10] ++ b) _ (by omega)) ?_; rintro vz w42 ⟨⟨Z, hOz, hSz, hZ⟩, hE42⟩; have hAz := sv_at hOz hSz (by rw [hZ]; exact prs_names _); have hZl : Z.length ≤ 5000 := (by have := congrArg List.length hZ; rw [List.length_map] at this; omega))
      replace hE37 := Ext.trans hE37 hE42
      replace hOy := own_ext hOy hE42
      replace hSy := hSy.ext hE42
      replace hAy := hAy.ext hE42
      replace hE35 := Ext.trans hE35 hE42
      replace hOx := own_ext hOx hE42
      replace hSx := hSx.ext hE42
      replace hAx := hAx.ext hE42
      replace hE9 := Ext.trans hE9 hE42
      replace hE0 := Ext.trans hE0 hE42
      refine Seg.step rfl rfl (Yd.assign rfl) ?_
      refine Seg.step rfl rfl (Yd.assign rfl) ?_
      refine Seg.step rfl rfl (Yd.assign rfl) ?_
      refine Seg.nil ?_
      refine At.then_ ?_
      refine Cd.seq ?_
      refine Cd.region ?_
      refine Seg.step rfl rfl (Yd.assign rfl) ?_
      refine Seg.nil ?_
      refine At.then_ ?_
      refine Cd.seq ?_
      refine Cd.region ?_
      refine Seg.step rfl rfl (Yd.move rfl) ?_
      refine Seg.step rfl rfl (Yd.move rfl) ?_
      obtain ⟨ax, cx, rfl⟩ := own_shape hOx
      obtain ⟨ay, cy, rfl⟩ := own_shape hOy
      obtain ⟨az, cz, rfl⟩ := own_shape hOz
      have kX : Keep (SvAt w42 (.slice ax X.length cx) X) := hAx
      have kY : Keep (SvAt w42 (.slice ay Y.length cy) Y) := hAy
      have kZ : Keep (SvAt w42 (.slice az Z.length cz) Z) := hAz
      have k0 : Keep (Ext w w42) := hE0
      refine Seg.appendNil (news := X.flatMap svV) (m' := X.length) rfl rfl rfl rfl rfl rfl rfl rfl rfl hAx.1 (svV_one hAx) (by omega) rfl (fun v1 w51 hN1 hE51 => ?_)
      have hY51 := SvAt.ext kY hE51
      refine Seg.step rfl rfl (Yd.assign rfl) ?_
      refine Seg.nil ?_
      refine At.then_ ?_
      refine Cd.seq ?_
      refine Cd.region ?_
      refine Seg.step rfl rfl (Yd.move rfl) ?_
      refine Seg.step rfl rfl (Yd.move rfl) ?_
      refine Seg.append (xs := X.flatMap svV) (news := Y.flatMap svV) (m' := Y.length) rfl rfl rfl rfl rfl rfl rfl rfl rfl hN1 hY51.1 (svV_one hY51) (Below.size hE51) (by omega) rfl (fun v2 w52 hN2 hG2 _ => ?_)
      have hE52 : Ext w42 w52 := Ext.own hE51 hN1 (Nat.le_refl _) hG2
      have hAx := SvAt.ext kX hE52
      have hAy := SvAt.ext kY hE52
      have hAz := SvAt.ext kZ hE52
      have hXY : SvAt w52 v2 (X ++ Y) := by
        refine ⟨?_, fun x hx => ?_⟩
        · have h := own_sl hN2
          rw [List.length_append, List.flatMap_append]; exact h
        · rcases List.mem_append.1 hx with hx | hx
          · exact hAx.2 x hx
          · exact hAy.2 x hx
      have hE0 : Ext w w52 := Ext.trans k0 hE52
      have hz : Z.map Prod.snd = X.map Prod.snd ++ Y.map Prod.snd := by rw [hZ, prs_join, hX, hY]
      have hd : decide (Z.map Prod.snd = (X ++ Y).map Prod.snd) = true := decide_eq_true (by rw [hz, List.map_append])
      have hfz := find_app n 0 (Y.map Prod.snd) (X.map Prod.snd)
      rw [← hz] at hfz
      have hfx := fun w' (hE : Ext w52 w') => find_any X n 0 _ w' (hAx.ext hE) (by omega)
      have hfy := fun w' (hE : Ext w52 w') => find_any Y n 0 _ w' (hAy.ext hE) (by omega)
      have hfz' := fun w' (hE : Ext w52 w') => find_any Z n 0 _ w' (hAz.ext hE) (by omega)
      rw [hfz] at hfz'
      have hES := Ext.refl w52
      clear hOx hOy hOz hSx hSy hSz hAy hE51 hN1 hY51
      generalize findB n 0 (X.map Prod.snd) = fx at hfx hfz'
      obtain ⟨m1, ok⟩ := fx
      cases ok with
      | true =>
        rw [if_pos rfl] at hfz'
        refine Seg.step rfl rfl (Yd.assign rfl) ?_
        refine Seg.nil ?_
        refine At.then_ ?_
        refine Cd.seq ?_
        refine Cd.region ?_
        refine Seg.step rfl rfl (Yd.move rfl) ?_
        refine Seg.step rfl rfl (Yd.move rfl) ?_
        (refine Seg.call rfl rfl (own_of rfl) rfl (hfx _ hES) ?_; rintro _ w60 ⟨rfl, hE60⟩)
        replace hN2 := own_ext hN2 hE60
        replace hE52 := Ext.trans hE52 hE60
        replace hAx := hAx.ext hE60
        replace hAz := hAz.ext hE60
        replace hXY := hXY.ext hE60
        replace hE0 := Ext.trans hE0 hE60
        replace hES := Ext.trans hES hE60
        refine Seg.step rfl rfl (Yd.move rfl) ?_
        refine Seg.step rfl rfl (Yd.extract rfl rfl) ?_
        refine Seg.step rfl rfl (Yd.extract rfl rfl) ?_
        refine Seg.step rfl rfl (Yd.assign rfl) ?_
        refine Seg.step rfl rfl (Yd.assign rfl) ?_
        refine Seg.nil ?_
        refine At.then_ ?_
        refine Cd.seq ?_
        refine Cd.seq ?_
        refine Cd.region ?_
        refine Seg.step rfl rfl (Yd.move rfl) ?_
        refine Seg.step rfl rfl (Yd.not rfl) ?_
        refine Seg.nil ?_
        refine At.then_ ?_
        refine Cd.condF rfl ?_
        refine Cd.skip ?_
        refine At.then_ ?_
        refine Cd.seq ?_
        refine Cd.region ?_
        refine Seg.step rfl rfl (Yd.move rfl) ?_
        refine Seg.step rfl rfl (Yd.move rfl) ?_
        (refine Seg.call rfl rfl (own_of rfl) rfl (hfz' _ hES) ?_; rintro _ w82 ⟨rfl, hE82⟩)
        replace hE60 := Ext.trans hE60 hE82
        replace hN2 := own_ext hN2 hE82
        replace hE52 := Ext.trans hE52 hE82
        replace hAx := hAx.ext hE82
        replace hAz := hAz.ext hE82
        replace hXY := hXY.ext hE82
        replace hE0 := Ext.trans hE0 hE82
        replace hES := Ext.trans hES hE82
        refine Seg.step rfl rfl (Yd.move rfl) ?_
        refine Seg.step rfl rfl (Yd.extract rfl rfl) ?_
        refine Seg.step rfl rfl (Yd.extract rfl rfl) ?_
        refine Seg.step rfl rfl (Yd.assign rfl) ?_
        refine Seg.step rfl rfl (Yd.assign rfl) ?_
        refine Seg.nil ?_
        refine At.then_ ?_
        refine Cd.seq ?_
        refine Cd.region ?_
        refine Seg.step rfl rfl (Yd.move rfl) ?_
        refine Seg.step rfl rfl (Yd.move rfl) ?_
        (refine Seg.call rfl rfl (own_of rfl) rfl (svsame_any Z (X ++ Y) _ _ _ hAz hXY (by omega)) ?_; rw [hd]; rintro _ w94 ⟨rfl, hE94⟩)
        replace hE82 := Ext.trans hE82 hE94
        replace hE60 := Ext.trans hE60 hE94
        replace hN2 := own_ext hN2 hE94
        replace hE52 := Ext.trans hE52 hE94
        replace hAx := hAx.ext hE94
        replace hAz := hAz.ext hE94
        replace hXY := hXY.ext hE94
        replace hE0 := Ext.trans hE0 hE94
        replace hES := Ext.trans hES hE94
        refine Seg.step rfl rfl (Yd.move rfl) ?_
        refine Seg.step rfl rfl (Yd.move rfl) ?_
        refine Seg.step rfl rfl (Yd.move rfl) ?_
        refine Seg.step rfl rfl (Yd.eql rfl rfl) ?_
        refine Seg.step rfl rfl (Yd.pickT rfl rfl) ?_
        refine Seg.step rfl rfl (Yd.move rfl) ?_
        refine Seg.gsplitp rfl rfl (fun h101 => ?_) (fun h101 => ?_)
        · refine Seg.step rfl rfl (Yd.move rfl) ?_
          refine Seg.step rfl rfl (Yd.move rfl) ?_
          refine Seg.step rfl rfl (Yd.eqlB rfl rfl rfl) ?_
          refine Seg.step rfl rfl (Yd.pickT rfl rfl) ?_
          refine Seg.step rfl rfl (Yd.assign rfl) ?_
          refine Seg.nil ?_
          refine At.then_ ?_
          refine Cd.ret ?_
          exact At.ret Try.results6 (.tmp rfl .nil) ⟨rfl, by assumption⟩
        · exfalso; omega
      | false =>
        rw [if_neg (by simp)] at hfz'
        generalize findB n 0 (Y.map Prod.snd) = fy at hfy hfz'
        obtain ⟨m2, ok2⟩ := fy
        cases ok2
        · refine Seg.step rfl rfl (Yd.assign rfl) ?_
          refine Seg.nil ?_
          refine At.then_ ?_
          refine Cd.seq ?_
          refine Cd.region ?_
          refine Seg.step rfl rfl (Yd.move rfl) ?_
          refine Seg.step rfl rfl (Yd.move rfl) ?_
          (refine Seg.call rfl rfl (own_of rfl) rfl (hfx _ hES) ?_; rintro _ w60 ⟨rfl, hE60⟩)
          replace hN2 := own_ext hN2 hE60
          replace hE52 := Ext.trans hE52 hE60
          replace hAx := hAx.ext hE60
          replace hAz := hAz.ext hE60
          replace hXY := hXY.ext hE60
          replace hE0 := Ext.trans hE0 hE60
          replace hES := Ext.trans hES hE60
          refine Seg.step rfl rfl (Yd.move rfl) ?_
          refine Seg.step rfl rfl (Yd.extract rfl rfl) ?_
          refine Seg.step rfl rfl (Yd.extract rfl rfl) ?_
          refine Seg.step rfl rfl (Yd.assign rfl) ?_
          refine Seg.step rfl rfl (Yd.assign rfl) ?_
          refine Seg.nil ?_
          refine At.then_ ?_
          refine Cd.seq ?_
          refine Cd.seq ?_
          refine Cd.region ?_
          refine Seg.step rfl rfl (Yd.move rfl) ?_
          refine Seg.step rfl rfl (Yd.not rfl) ?_
          refine Seg.nil ?_
          refine At.then_ ?_
          refine Cd.condT rfl ?_
          refine Cd.region ?_
          refine Seg.step rfl rfl (Yd.move rfl) ?_
          refine Seg.step rfl rfl (Yd.move rfl) ?_
          (refine Seg.call rfl rfl (own_of rfl) rfl (hfy _ hES) ?_; rintro _ w79 ⟨rfl, hE79⟩)
          replace hE60 := Ext.trans hE60 hE79
          replace hN2 := own_ext hN2 hE79
          replace hE52 := Ext.trans hE52 hE79
          replace hAx := hAx.ext hE79
          replace hAz := hAz.ext hE79
          replace hXY := hXY.ext hE79
          replace hE0 := Ext.trans hE0 hE79
          replace hES := Ext.trans hES hE79
          refine Seg.step rfl rfl (Yd.move rfl) ?_
          refine Seg.step rfl rfl (Yd.extract rfl rfl) ?_
          refine Seg.step rfl rfl (Yd.extract rfl rfl) ?_
          refine Seg.step rfl rfl (Yd.assign rfl) ?_
          refine Seg.step rfl rfl (Yd.assign rfl) ?_
          refine Seg.nil ?_
          refine At.then_ ?_
          refine Cd.seq ?_
          refine Cd.region ?_
          refine Seg.step rfl rfl (Yd.move rfl) ?_
          refine Seg.step rfl rfl (Yd.move rfl) ?_
          (refine Seg.call rfl rfl (own_of rfl) rfl (hfz' _ hES) ?_; rintro _ w91 ⟨rfl, hE91⟩)
          replace hE79 := Ext.trans hE79 hE91
          replace hE60 := Ext.trans hE60 hE91
          replace hN2 := own_ext hN2 hE91
          replace hE52 := Ext.trans hE52 hE91
          replace hAx := hAx.ext hE91
          replace hAz := hAz.ext hE91
          replace hXY := hXY.ext hE91
          replace hE0 := Ext.trans hE0 hE91
          replace hES := Ext.trans hES hE91
          refine Seg.step rfl rfl (Yd.move rfl) ?_
          refine Seg.step rfl rfl (Yd.extract rfl rfl) ?_
          refine Seg.step rfl rfl (Yd.extract rfl rfl) ?_
          refine Seg.step rfl rfl (Yd.assign rfl) ?_
          refine Seg.step rfl rfl (Yd.assign rfl) ?_
          refine Seg.nil ?_
          refine At.then_ ?_
          refine Cd.seq ?_
          refine Cd.region ?_
          refine Seg.step rfl rfl (Yd.move rfl) ?_
          refine Seg.step rfl rfl (Yd.move rfl) ?_
          (refine Seg.call rfl rfl (own_of rfl) rfl (svsame_any Z (X ++ Y) _ _ _ hAz hXY (by omega)) ?_; rw [hd]; rintro _ w103 ⟨rfl, hE103⟩)
          replace hE91 := Ext.trans hE91 hE103
          replace hE79 := Ext.trans hE79 hE103
          replace hE60 := Ext.trans hE60 hE103
          replace hN2 := own_ext hN2 hE103
          replace hE52 := Ext.trans hE52 hE103
          replace hAx := hAx.ext hE103
          replace hAz := hAz.ext hE103
          replace hXY := hXY.ext hE103
          replace hE0 := Ext.trans hE0 hE103
          replace hES := Ext.trans hES hE103
          refine Seg.step rfl rfl (Yd.move rfl) ?_
          refine Seg.step rfl rfl (Yd.move rfl) ?_
          refine Seg.step rfl rfl (Yd.move rfl) ?_
          refine Seg.step rfl rfl (Yd.eql rfl rfl) ?_
          refine Seg.step rfl rfl (Yd.pickT rfl rfl) ?_
          refine Seg.step rfl rfl (Yd.move rfl) ?_
          refine Seg.gsplitp rfl rfl (fun h110 => ?_) (fun h110 => ?_)
          · refine Seg.step rfl rfl (Yd.move rfl) ?_
            refine Seg.step rfl rfl (Yd.move rfl) ?_
            refine Seg.step rfl rfl (Yd.eqlB rfl rfl rfl) ?_
            refine Seg.step rfl rfl (Yd.pickT rfl rfl) ?_
            refine Seg.step rfl rfl (Yd.assign rfl) ?_
            refine Seg.nil ?_
            refine At.then_ ?_
            refine Cd.ret ?_
            exact At.ret Try.results6 (.tmp rfl .nil) ⟨rfl, by assumption⟩
          · exfalso; omega
        · refine Seg.step rfl rfl (Yd.assign rfl) ?_
          refine Seg.nil ?_
          refine At.then_ ?_
          refine Cd.seq ?_
          refine Cd.region ?_
          refine Seg.step rfl rfl (Yd.move rfl) ?_
          refine Seg.step rfl rfl (Yd.move rfl) ?_
          (refine Seg.call rfl rfl (own_of rfl) rfl (hfx _ hES) ?_; rintro _ w60 ⟨rfl, hE60⟩)
          replace hN2 := own_ext hN2 hE60
          replace hE52 := Ext.trans hE52 hE60
          replace hAx := hAx.ext hE60
          replace hAz := hAz.ext hE60
          replace hXY := hXY.ext hE60
          replace hE0 := Ext.trans hE0 hE60
          replace hES := Ext.trans hES hE60
          refine Seg.step rfl rfl (Yd.move rfl) ?_
          refine Seg.step rfl rfl (Yd.extract rfl rfl) ?_
          refine Seg.step rfl rfl (Yd.extract rfl rfl) ?_
          refine Seg.step rfl rfl (Yd.assign rfl) ?_
          refine Seg.step rfl rfl (Yd.assign rfl) ?_
          refine Seg.nil ?_
          refine At.then_ ?_
          refine Cd.seq ?_
          refine Cd.seq ?_
          refine Cd.region ?_
          refine Seg.step rfl rfl (Yd.move rfl) ?_
          refine Seg.step rfl rfl (Yd.not rfl) ?_
          refine Seg.nil ?_
          refine At.then_ ?_
          refine Cd.condT rfl ?_
          refine Cd.region ?_
          refine Seg.step rfl rfl (Yd.move rfl) ?_
          refine Seg.step rfl rfl (Yd.move rfl) ?_
          (refine Seg.call rfl rfl (own_of rfl) rfl (hfy _ hES) ?_; rintro _ w79 ⟨rfl, hE79⟩)
          replace hE60 := Ext.trans hE60 hE79
          replace hN2 := own_ext hN2 hE79
          replace hE52 := Ext.trans hE52 hE79
          replace hAx := hAx.ext hE79
          replace hAz := hAz.ext hE79
          replace hXY := hXY.ext hE79
          replace hE0 := Ext.trans hE0 hE79
          replace hES := Ext.trans hES hE79
          refine Seg.step rfl rfl (Yd.move rfl) ?_
          refine Seg.step rfl rfl (Yd.extract rfl rfl) ?_
          refine Seg.step rfl rfl (Yd.extract rfl rfl) ?_
          refine Seg.step rfl rfl (Yd.assign rfl) ?_
          refine Seg.step rfl rfl (Yd.assign rfl) ?_
          refine Seg.nil ?_
          refine At.then_ ?_
          refine Cd.seq ?_
          refine Cd.region ?_
          refine Seg.step rfl rfl (Yd.move rfl) ?_
          refine Seg.step rfl rfl (Yd.move rfl) ?_
          (refine Seg.call rfl rfl (own_of rfl) rfl (hfz' _ hES) ?_; rintro _ w91 ⟨rfl, hE91⟩)
          replace hE79 := Ext.trans hE79 hE91
          replace hE60 := Ext.trans hE60 hE91
          replace hN2 := own_ext hN2 hE91
          replace hE52 := Ext.trans hE52 hE91
          replace hAx := hAx.ext hE91
          replace hAz := hAz.ext hE91
          replace hXY := hXY.ext hE91
          replace hE0 := Ext.trans hE0 hE91
          replace hES := Ext.trans hES hE91
          refine Seg.step rfl rfl (Yd.move rfl) ?_
          refine Seg.step rfl rfl (Yd.extract rfl rfl) ?_
          refine Seg.step rfl rfl (Yd.extract rfl rfl) ?_
          refine Seg.step rfl rfl (Yd.assign rfl) ?_
          refine Seg.step rfl rfl (Yd.assign rfl) ?_
          refine Seg.nil ?_
          refine At.then_ ?_
          refine Cd.seq ?_
          refine Cd.region ?_
          refine Seg.step rfl rfl (Yd.move rfl) ?_
          refine Seg.step rfl rfl (Yd.move rfl) ?_
          (refine Seg.call rfl rfl (own_of rfl) rfl (svsame_any Z (X ++ Y) _ _ _ hAz hXY (by omega)) ?_; rw [hd]; rintro _ w103 ⟨rfl, hE103⟩)
          replace hE91 := Ext.trans hE91 hE103
          replace hE79 := Ext.trans hE79 hE103
          replace hE60 := Ext.trans hE60 hE103
          replace hN2 := own_ext hN2 hE103
          replace hE52 := Ext.trans hE52 hE103
          replace hAx := hAx.ext hE103
          replace hAz := hAz.ext hE103
          replace hXY := hXY.ext hE103
          replace hE0 := Ext.trans hE0 hE103
          replace hES := Ext.trans hES hE103
          refine Seg.step rfl rfl (Yd.move rfl) ?_
          refine Seg.step rfl rfl (Yd.move rfl) ?_
          refine Seg.step rfl rfl (Yd.move rfl) ?_
          refine Seg.step rfl rfl (Yd.eql rfl rfl) ?_
          refine Seg.step rfl rfl (Yd.pickT rfl rfl) ?_
          refine Seg.step rfl rfl (Yd.move rfl) ?_
          refine Seg.gsplitp rfl rfl (fun h110 => ?_) (fun h110 => ?_)
          · refine Seg.step rfl rfl (Yd.move rfl) ?_
            refine Seg.step rfl rfl (Yd.move rfl) ?_
            refine Seg.step rfl rfl (Yd.eqlB rfl rfl rfl) ?_
            refine Seg.step rfl rfl (Yd.pickT rfl rfl) ?_
            refine Seg.step rfl rfl (Yd.assign rfl) ?_
            refine Seg.nil ?_
            refine At.then_ ?_
            refine Cd.ret ?_
            exact At.ret Try.results6 (.tmp rfl .nil) ⟨rfl, by assumption⟩
          · exfalso; omega
    · refine Cd.seq ?_
      refine Cd.region ?_
      refine Seg.step rfl rfl (Yd.assign rfl) ?_
      refine Seg.nil ?_
      refine At.then_ ?_
      refine Cd.seq ?_
      refine Cd.seq ?_
      refine Cd.region ?_
      (refine Seg.call rfl rfl (own_of rfl) rfl (works20 _) ?_; rintro _ w9 ⟨rfl, hE9⟩)
      replace hE0 := Ext.trans hE0 hE9
      refine Seg.step rfl rfl (Yd.not rfl) ?_
      refine Seg.step rfl rfl (Yd.move rfl) ?_
      refine Seg.step rfl rfl (Yd.move rfl) ?_
      refine Seg.step rfl rfl (Yd.lenStr rfl rfl) ?_
      refine Seg.step rfl rfl (Yd.move rfl) ?_
      refine Seg.step rfl rfl (Yd.lenStr rfl rfl) ?_
      refine Seg.step rfl rfl (Yd.addI rfl rfl (by omega)) ?_
      refine Seg.step rfl rfl (Yd.gtr rfl rfl) ?_
      refine Seg.step rfl rfl (Yd.pickF rfl rfl) ?_
      refine Seg.step rfl rfl (Yd.move rfl) ?_
      refine Seg.gsplitp rfl rfl (fun h20 => ?_) (fun h20 => ?_)
      · exfalso; omega
      · refine Seg.step rfl rfl (Yd.move rfl) ?_
        refine Seg.step rfl rfl (Yd.lenStr rfl rfl) ?_
        refine Seg.step rfl rfl (Yd.gtr rfl rfl) ?_
        refine Seg.step rfl rfl (Yd.pickF rfl rfl) ?_
        refine Seg.nil ?_
        refine At.then_ ?_
        refine Cd.condk rfl (fun h28 => ?_) (fun h28 => ?_)
        · refine Cd.seq ?_
          refine Cd.region ?_
          (refine Seg.call rfl rfl (own_of rfl) rfl (works20 _) ?_; rintro _ w32 ⟨rfl, hE32⟩)
          replace hE9 := Ext.trans hE9 hE32
          replace hE0 := Ext.trans hE0 hE32
          refine Seg.step rfl rfl (Yd.assign rfl) ?_
          refine Seg.nil ?_
          refine At.then_ ?_
          refine Cd.ret ?_
          refine At.then_ret ?_
          exact At.ret Try.results6 (.tmp rfl .nil) ⟨rfl, by assumption⟩
        · exfalso; omega
  · refine Cd.seq ?_
    refine Cd.region ?_
    refine Seg.step rfl rfl (Yd.assign rfl) ?_
    refine Seg.nil ?_
    refine At.then_ ?_
    refine Cd.seq ?_
    refine Cd.seq ?_
    refine Cd.region ?_
    (refine Seg.call rfl rfl (own_of rfl) rfl (works20 _) ?_; rintro _ w9 ⟨rfl, hE9⟩)
    replace hE0 := Ext.trans hE0 hE9
    refine Seg.step rfl rfl (Yd.not rfl) ?_
    refine Seg.step rfl rfl (Yd.move rfl) ?_
    refine Seg.step rfl rfl (Yd.move rfl) ?_
    refine Seg.step rfl rfl (Yd.lenStr rfl rfl) ?_
    refine Seg.step rfl rfl (Yd.move rfl) ?_
    refine Seg.step rfl rfl (Yd.lenStr rfl rfl) ?_
    refine Seg.step rfl rfl (Yd.addI rfl rfl (by omega)) ?_
    refine Seg.step rfl rfl (Yd.gtr rfl rfl) ?_
    refine Seg.step rfl rfl (Yd.pickF rfl rfl) ?_
    refine Seg.step rfl rfl (Yd.move rfl) ?_
    refine Seg.gsplitp rfl rfl (fun h20 => ?_) (fun h20 => ?_)
    · refine Seg.skip rfl rfl ?_
      refine Seg.skip rfl rfl ?_
      refine Seg.skip rfl rfl ?_
      refine Seg.step rfl rfl (Yd.pickT rfl rfl) ?_
      refine Seg.nil ?_
      refine At.then_ ?_
      refine Cd.condT rfl ?_
      refine Cd.seq ?_
      refine Cd.region ?_
      (refine Seg.call rfl rfl (own_of rfl) rfl (works20 _) ?_; rintro _ w31 ⟨rfl, hE31⟩)
      replace hE9 := Ext.trans hE9 hE31
      replace hE0 := Ext.trans hE0 hE31
      refine Seg.step rfl rfl (Yd.assign rfl) ?_
      refine Seg.nil ?_
      refine At.then_ ?_
      refine Cd.ret ?_
      refine At.then_ret ?_
      exact At.ret Try.results6 (.tmp rfl .nil) ⟨rfl, by assumption⟩
    · exfalso; omega
end Go.Proofs.Ytbmgigbedmgfpaa
