/- The law of what a text of services says: the walk. -/
import Derived.Test.YtbmgigbedmgfpaaRps
import Derived.Test.YtbmgigbedmgfpaaSjn
namespace Go.Proofs.Ytbmgigbedmgfpaa
open Go Go.RowKit
theorem prs_lenX {X : List Sv} {t : List UInt8} (h : X.map Prod.snd = prsB t) (ht : t.length ≤ 1000000) : X.length ≤ 10000000 := by
  have h1 := congrArg List.length h
  rw [List.length_map] at h1
  have := prs_len t
  omega
theorem law_sparse (s one : List UInt8) (w : World) (hso : s.length + one.length ≤ 4611686018427387904) : Ret Try.prog 4 #[.string ⟨s.toArray⟩, .string ⟨one.toArray⟩] w fun v w' => v = .bool true ∧ Ext w w' := by
  have hE0 := Ext.refl w
  refine Ret.body Try.func4 rfl Try.ntmps4 rfl ?_
  by_cases hl : s.length + one.length ≤ 4000
  · refine Cd.seq ?_
    refine Cd.region ?_
    refine Seg.step rfl rfl (Yd.assign rfl) ?_
    refine Seg.nil ?_
    refine At.then_ ?_
    refine Cd.seq ?_
    refine Cd.seq ?_
    refine Cd.region ?_
    (refine Seg.call rfl rfl (own_of rfl) rfl (works20 _) ?_; rintro _ w9 ⟨rfl, hE9⟩)
    replace hE0 := Ext.trans hE0 hE9
    refine Seg.step rfl rfl (Yd.not rfl) ?_
    refine Seg.step rfl rfl (Yd.move rfl) ?_
    refine Seg.step rfl rfl (Yd.move rfl) ?_
    refine Seg.step rfl rfl (Yd.lenStr rfl rfl) ?_
    refine Seg.step rfl rfl (Yd.move rfl) ?_
    refine Seg.step rfl rfl (Yd.lenStr rfl rfl) ?_
    refine Seg.step rfl rfl (Yd.addI rfl rfl (by omega)) ?_
    refine Seg.step rfl rfl (Yd.gtr rfl rfl) ?_
    refine Seg.step rfl rfl (Yd.pickF rfl rfl) ?_
    refine Seg.nil ?_
    refine At.then_ ?_
    refine Cd.condk rfl (fun h21 => ?_) (fun h21 => ?_)
    · exfalso; omega
    refine Cd.skip ?_
    refine At.then_ ?_
    refine Cd.seq ?_
    refine Cd.region ?_
    refine Seg.step rfl rfl (Yd.move rfl) ?_
    (refine Seg.call rfl rfl (own_of rfl) rfl (rparse_any s _ (by omega)) ?_; rintro vw w28 ⟨⟨X, hX, hSX, hmX⟩, hE28⟩; have hAX : Keep (SvAt w28 vw X) := sv_at hX hSX (fun y hy => prs_names s y (by rw [← hmX]; exact hy)); obtain ⟨xa, xc, rfl⟩ := own_shape hX; have hEX := Ext.refl w28)
    replace hE9 := Ext.trans hE9 hE28
    replace hE0 := Ext.trans hE0 hE28
    refine Seg.step rfl rfl (Yd.assign rfl) ?_
    refine Seg.nil ?_
    refine At.then_ ?_
    refine Cd.seq ?_
    refine Cd.seq ?_
    refine Cd.region ?_
    refine Seg.step rfl rfl (Yd.move rfl) ?_
    (refine Seg.call rfl rfl (own_of rfl) rfl (parse_any s _ (by omega)) ?_; rintro vy w36 ⟨⟨Y, hY, hSY, hmY⟩, hE36⟩; have hAY : SvAt w36 vy Y := sv_at hY hSY (fun y hy => prs_names s y (by rw [← hmY]; exact hy)); obtain ⟨ya, yc, rfl⟩ := own_shape hY; have hEY := Ext.refl w36)
    replace hE28 := Ext.trans hE28 hE36
    replace hX := own_ext hX hE36
    replace hSX := hSX.ext hE36
    replace hEX := Ext.trans hEX hE36
    replace hE9 := Ext.trans hE9 hE36
    replace hE0 := Ext.trans hE0 hE36
    refine Seg.step rfl rfl (Yd.move rfl) ?_
    (refine Seg.call rfl rfl (own_of rfl) rfl (svsame_any Y X _ _ _ (SvAt.ext hAY hEY) (SvAt.ext hAX hEX) (prs_lenX hmY (by omega))) ?_; rw [decide_eq_true (hmY.trans hmX.symm)]; rintro _ w38 ⟨rfl, hE38⟩)
    replace hE36 := Ext.trans hE36 hE38
    replace hY := own_ext hY hE38
    replace hSY := hSY.ext hE38
    replace hAY := hAY.ext hE38
    replace hEY := Ext.trans hEY hE38
    replace hE28 := Ext.trans hE28 hE38
    replace hX := own_ext hX hE38
    replace hSX := hSX.ext hE38
    replace hEX := Ext.trans hEX hE38
    replace hE9 := Ext.trans hE9 hE38
    replace hE0 := Ext.trans hE0 hE38
    refine Seg.step rfl rfl (Yd.not rfl) ?_
    refine Seg.nil ?_
    refine At.then_ ?_
    refine Cd.condF rfl ?_
    refine Cd.skip ?_
    refine At.then_ ?_
    refine Cd.seq ?_
    refine Cd.seq ?_
    refine Cd.region ?_
    refine Seg.step rfl rfl (Yd.assign rfl) ?_
    refine Seg.nil ?_
    refine At.then_ ?_
    refine Cd.block ?_
    have hAX' := SvAt.ext hAX hEX
    have hEw := hE0
    clear hE0 hX hSX hY hSY hAY hEX hEY
    refine Cd.loop (σ := Nat) (fun i => [(0, .string ⟨s.toArray⟩), (1, .string ⟨one.toArray⟩), (4, .bool false), (5, .slice xa X.length xc), (6, .int .i64 (i : Int))])
      (fun i w' => i ≤ one.length ∧ Ext w38 w') (fun i => one.length - i) 0 (.cons rfl (.cons rfl (.cons rfl (.cons rfl (.cons rfl (.nil _)))))) ⟨Nat.zero_le _, Ext.refl _⟩ ?_
    rintro i w0 ⟨hi, hE38⟩
    have hE0 := Ext.trans hEw hE38
    have hAX0 : Keep (SvAt w0 (.slice xa X.length xc) X) := SvAt.ext hAX' hE38
    have hEX := Ext.refl w0
    by_cases hlt : i < one.length
    · by_cases h10 : one.getD i 0 = 10
      · have h10' : ((one.getD i 0).toNat : Int) = 10 := by rw [h10]; rfl
        refine Cd.seq ?_
        refine Cd.seq ?_
        refine Cd.region ?_
        refine Seg.step rfl rfl (Yd.move rfl) ?_
        refine Seg.step rfl rfl (Yd.move rfl) ?_
        refine Seg.step rfl rfl (Yd.lenStr rfl rfl) ?_
        refine Seg.step rfl rfl (Yd.lss rfl rfl) ?_
        refine Seg.nil ?_
        refine At.then_ ?_
        refine Cd.condk rfl (fun h48 => ?_) (fun h48 => ?_)
        · refine Cd.skip ?_
          refine At.then_ ?_
          refine Cd.seq ?_
          refine Cd.block ?_
          refine Cd.seq ?_
          refine Cd.region ?_
          refine Seg.step rfl rfl (Yd.move rfl) ?_
          refine Seg.step rfl rfl (Yd.move rfl) ?_
          refine Seg.step rfl rfl (Yd.indexStr rfl rfl rfl (NatOf.cast _) (by omega)) ?_
          refine Seg.step rfl rfl (Yd.eql rfl rfl) ?_
          refine Seg.nil ?_
          refine At.then_ ?_
          refine Cd.condk rfl (fun h62 => ?_) (fun h62 => ?_)
          · refine Cd.seq ?_
            refine Cd.region ?_
            refine Seg.step rfl rfl (Yd.assign rfl) ?_
            refine Seg.nil ?_
            refine At.then_ ?_
            refine Cd.ret ?_
            refine At.blk_ret ?_
            refine At.then_ret ?_
            refine At.then_ret ?_
            refine At.blk_ret ?_
            refine At.then_ret ?_
            exact At.ret Try.results4 (.tmp rfl .nil) ⟨rfl, by assumption⟩
          · exfalso; omega
        · exfalso; omega
      · have h10' : ¬ ((one.getD i 0).toNat : Int) = 10 := fun h => h10 (u8_ne.1 (by rw [h]; rfl))
        refine Cd.seq ?_
        refine Cd.seq ?_
        refine Cd.region ?_
        refine Seg.step rfl rfl (Yd.move rfl) ?_
        refine Seg.step rfl rfl (Yd.move rfl) ?_
        refine Seg.step rfl rfl (Yd.lenStr rfl rfl) ?_
        refine Seg.step rfl rfl (Yd.lss rfl rfl) ?_
        refine Seg.nil ?_
        refine At.then_ ?_
        refine Cd.condk rfl (fun h48 => ?_) (fun h48 => ?_)
        · refine Cd.skip ?_
          refine At.then_ ?_
          refine Cd.seq ?_
          refine Cd.block ?_
          refine Cd.seq ?_
          refine Cd.region ?_
          refine Seg.step rfl rfl (Yd.move rfl) ?_
          refine Seg.step rfl rfl (Yd.move rfl) ?_
          refine Seg.step rfl rfl (Yd.indexStr rfl rfl rfl (NatOf.cast _) (by omega)) ?_
          refine Seg.step rfl rfl (Yd.eql rfl rfl) ?_
          refine Seg.nil ?_
          refine At.then_ ?_
          refine Cd.condk rfl (fun h62 => ?_) (fun h62 => ?_)
          · exfalso; omega
          · refine Cd.skip ?_
            refine At.blk ?_
            refine At.then_ ?_
            refine Cd.region ?_
            refine Seg.step rfl rfl (Yd.move rfl) ?_
            refine Seg.step rfl rfl (Yd.addI rfl rfl (by omega)) ?_
            refine Seg.step rfl rfl (Yd.assign rfl) ?_
            refine Seg.nil ?_
            exact At.round (i + 1) (.cons rfl (.cons rfl (.cons rfl (.cons rfl (.cons rfl (.nil _)))))) ⟨hlt, hE38⟩ (Nat.sub_lt_sub_left hlt (Nat.lt_succ_self i))
        · exfalso; omega
    · have lz1 : one.length + ([10] : List UInt8).length ≤ 9223372036854775807 := by simp; omega
      have lz2 : (one ++ [10]).length + s.length ≤ 9223372036854775807 := by simp; omega
      have lz3 : s.length + ([10] : List UInt8).length ≤ 9223372036854775807 := by simp; omega
      have lz4 : (s ++ [10]).length + one.length ≤ 9223372036854775807 := by simp; omega
      have lzz : (one ++ [10] ++ s).length ≤ 1000000 := by simp; omega
      have lzy : (s ++ [10] ++ one).length ≤ 1000000 := by simp; omega
      by_cases hz : prsB one = []
      · have hz0 : (prsB one).length = 0 := by rw [hz]; rfl
        have e1 : prsB (one ++ [10] ++ s) = prsB s := by rw [prs_join, hz, List.nil_append]
        have e2 : prsB (s ++ [10] ++ one) = prsB s := by rw [prs_join, hz, List.append_nil]
        refine Cd.seq ?_
        refine Cd.seq ?_
        refine Cd.region ?_
        refine Seg.step rfl rfl (Yd.move rfl) ?_
        refine Seg.step rfl rfl (Yd.move rfl) ?_
        refine Seg.step rfl rfl (Yd.lenStr rfl rfl) ?_
        refine Seg.step rfl rfl (Yd.lss rfl rfl) ?_
        refine Seg.nil ?_
        refine At.then_ ?_
        refine Cd.condk rfl (fun h48 => ?_) (fun h48 => ?_)
        · exfalso; omega
        · refine Cd.exit ?_
          refine At.then_exit ?_
          refine At.then_exit ?_
          refine At.blk_same ?_
          refine At.then_ ?_
          refine Cd.seq ?_
          refine Cd.seq ?_
          refine Cd.region ?_
          refine Seg.step rfl rfl (Yd.move rfl) ?_
          (refine Seg.call rfl rfl (own_of rfl) rfl (rparse_any one _ (by omega)) ?_; rintro vo w59 ⟨⟨Z, hZ, -, hmZ⟩, hE59⟩; obtain ⟨za, zc, rfl⟩ := own_shape hZ; clear hZ; have hZl : Z.length = (prsB one).length := (by rw [← hmZ, List.length_map]))
          replace hE38 := Ext.trans hE38 hE59
          replace hE0 := Ext.trans hE0 hE59
          replace hEX := Ext.trans hEX hE59
          refine Seg.step rfl rfl (Yd.lenS rfl rfl) ?_
          (refine Seg.step rfl rfl (Yd.gtr rfl rfl) ?_)
          refine Seg.nil ?_
          refine At.then_ ?_
          refine Cd.condk rfl (fun h64 => ?_) (fun h64 => ?_)
          · exfalso; omega
          · refine Cd.skip ?_
            refine At.then_ ?_
            refine Cd.seq ?_
            refine Cd.region ?_
            refine Seg.step rfl rfl (Yd.move rfl) ?_
            (refine Seg.step rfl rfl (Yd.addS (l := one) (m := [10]) rfl rfl lz1) ?_)
            refine Seg.step rfl rfl (Yd.move rfl) ?_
            (refine Seg.step rfl rfl (Yd.addS (l := one ++ [10]) (m := s) rfl rfl lz2) ?_)
            (refine Seg.call rfl rfl (own_of rfl) rfl (parse_any (one ++ [10] ++ s) _ lzz) ?_; rintro vy w74 ⟨⟨Y, hY, hSY, hmY⟩, hE74⟩; have hAY : SvAt w74 vy Y := sv_at hY hSY (fun y hy => prs_names _ y (by rw [← hmY]; exact hy)); obtain ⟨ya, yc, rfl⟩ := own_shape hY; clear hY hSY; have hEY := Ext.refl w74)
            replace hE59 := Ext.trans hE59 hE74
            replace hE38 := Ext.trans hE38 hE74
            replace hE0 := Ext.trans hE0 hE74
            replace hEX := Ext.trans hEX hE74
            refine Seg.step rfl rfl (Yd.move rfl) ?_
            (refine Seg.call rfl rfl (own_of rfl) rfl (svsame_any Y X _ _ _ (SvAt.ext hAY hEY) (SvAt.ext hAX0 hEX) (prs_lenX hmY lzz)) ?_; rw [decide_eq_true ((hmY.trans e1).trans hmX.symm)]; rintro _ w76 ⟨rfl, hE76⟩)
            replace hE74 := Ext.trans hE74 hE76
            replace hAY := hAY.ext hE76
            replace hEY := Ext.trans hEY hE76
            replace hE59 := Ext.trans hE59 hE76
            replace hE38 := Ext.trans hE38 hE76
            replace hE0 := Ext.trans hE0 hE76
            replace hEX := Ext.trans hEX hE76
            refine Seg.step rfl rfl (Yd.move rfl) ?_
            refine Seg.step rfl rfl (Yd.move rfl) ?_
            (refine Seg.step rfl rfl (Yd.addS (l := s) (m := [10]) rfl rfl lz3) ?_)
            refine Seg.step rfl rfl (Yd.move rfl) ?_
            (refine Seg.step rfl rfl (Yd.addS (l := s ++ [10]) (m := one) rfl rfl lz4) ?_)
            (refine Seg.call rfl rfl (own_of rfl) rfl (parse_any (s ++ [10] ++ one) _ lzy) ?_; rintro vy w82 ⟨⟨V, hY, hSY, hmV⟩, hE82⟩; have hAV : SvAt w82 vy V := sv_at hY hSY (fun y hy => prs_names _ y (by rw [← hmV]; exact hy)); obtain ⟨va, vc, rfl⟩ := own_shape hY; clear hY hSY; have hEV := Ext.refl w82)
            replace hE76 := Ext.trans hE76 hE82
            replace hE74 := Ext.trans hE74 hE82
            replace hAY := hAY.ext hE82
            replace hEY := Ext.trans hEY hE82
            replace hE59 := Ext.trans hE59 hE82
            replace hE38 := Ext.trans hE38 hE82
            replace hE0 := Ext.trans hE0 hE82
            replace hEX := Ext.trans hEX hE82
            refine Seg.step rfl rfl (Yd.move rfl) ?_
            (refine Seg.call rfl rfl (own_of rfl) rfl (svsame_any V X _ _ _ (SvAt.ext hAV hEV) (SvAt.ext hAX0 hEX) (prs_lenX hmV lzy)) ?_; rw [decide_eq_true ((hmV.trans e2).trans hmX.symm)]; rintro _ w84 ⟨rfl, hE84⟩)
            replace hE82 := Ext.trans hE82 hE84
            replace hAV := hAV.ext hE84
            replace hEV := Ext.trans hEV hE84
            replace hE76 := Ext.trans hE76 hE84
            replace hE74 := Ext.trans hE74 hE84
            replace hAY := hAY.ext hE84
            replace hEY := Ext.trans hEY hE84
            replace hE59 := Ext.trans hE59 hE84
            replace hE38 := Ext.trans hE38 hE84
            replace hE0 := Ext.trans hE0 hE84
            replace hEX := Ext.trans hEX hE84
            refine Seg.step rfl rfl (Yd.pickT rfl rfl) ?_
            refine Seg.step rfl rfl (Yd.assign rfl) ?_
            refine Seg.nil ?_
            refine At.then_ ?_
            refine Cd.ret ?_
            exact At.ret Try.results4 (.tmp rfl .nil) ⟨rfl, by assumption⟩
      · have hz0 : 0 < (prsB one).length := List.length_pos_iff.2 hz
        refine Cd.seq ?_
        refine Cd.seq ?_
        refine Cd.region ?_
        refine Seg.step rfl rfl (Yd.move rfl) ?_
        refine Seg.step rfl rfl (Yd.move rfl) ?_
        refine Seg.step rfl rfl (Yd.lenStr rfl rfl) ?_
        refine Seg.step rfl rfl (Yd.lss rfl rfl) ?_
        refine Seg.nil ?_
        refine At.then_ ?_
        refine Cd.condk rfl (fun h48 => ?_) (fun h48 => ?_)
        · exfalso; omega
        · refine Cd.exit ?_
          refine At.then_exit ?_
          refine At.then_exit ?_
          refine At.blk_same ?_
          refine At.then_ ?_
          refine Cd.seq ?_
          refine Cd.seq ?_
          refine Cd.region ?_
          refine Seg.step rfl rfl (Yd.move rfl) ?_
          (refine Seg.call rfl rfl (own_of rfl) rfl (rparse_any one _ (by omega)) ?_; rintro vo w59 ⟨⟨Z, hZ, -, hmZ⟩, hE59⟩; obtain ⟨za, zc, rfl⟩ := own_shape hZ; clear hZ; have hZl : Z.length = (prsB one).length := (by rw [← hmZ, List.length_map]))
          replace hE38 := Ext.trans hE38 hE59
          replace hE0 := Ext.trans hE0 hE59
          replace hEX := Ext.trans hEX hE59
          refine Seg.step rfl rfl (Yd.lenS rfl rfl) ?_
          refine Seg.step rfl rfl (Yd.gtr rfl rfl) ?_
          refine Seg.nil ?_
          refine At.then_ ?_
          refine Cd.condk rfl (fun h64 => ?_) (fun h64 => ?_)
          · refine Cd.seq ?_
            refine Cd.region ?_
            refine Seg.step rfl rfl (Yd.assign rfl) ?_
            refine Seg.nil ?_
            refine At.then_ ?_
            refine Cd.ret ?_
            refine At.then_ret ?_
            exact At.ret Try.results4 (.tmp rfl .nil) ⟨rfl, by assumption⟩
          · exfalso; omega
  · refine Cd.seq ?_
    refine Cd.region ?_
    refine Seg.step rfl rfl (Yd.assign rfl) ?_
    refine Seg.nil ?_
    refine At.then_ ?_
    refine Cd.seq ?_
    refine Cd.seq ?_
    refine Cd.region ?_
    (refine Seg.call rfl rfl (own_of rfl) rfl (works20 _) ?_; rintro _ w9 ⟨rfl, hE9⟩)
    replace hE0 := Ext.trans hE0 hE9
    refine Seg.step rfl rfl (Yd.not rfl) ?_
    refine Seg.step rfl rfl (Yd.move rfl) ?_
    refine Seg.step rfl rfl (Yd.move rfl) ?_
    refine Seg.step rfl rfl (Yd.lenStr rfl rfl) ?_
    refine Seg.step rfl rfl (Yd.move rfl) ?_
    refine Seg.step rfl rfl (Yd.lenStr rfl rfl) ?_
    refine Seg.step rfl rfl (Yd.addI rfl rfl (by omega)) ?_
    refine Seg.step rfl rfl (Yd.gtr rfl rfl) ?_
    refine Seg.step rfl rfl (Yd.pickF rfl rfl) ?_
    refine Seg.nil ?_
    refine At.then_ ?_
    refine Cd.condk rfl (fun h21 => ?_) (fun h21 => ?_)
    · refine Cd.seq ?_
      refine Cd.region ?_
      (refine Seg.call rfl rfl (own_of rfl) rfl (works20 _) ?_; rintro _ w25 ⟨rfl, hE25⟩)
      replace hE9 := Ext.trans hE9 hE25
      replace hE0 := Ext.trans hE0 hE25
      refine Seg.step rfl rfl (Yd.assign rfl) ?_
      refine Seg.nil ?_
      refine At.then_ ?_
      refine Cd.ret ?_
      refine At.then_ret ?_
      exact At.ret Try.results4 (.tmp rfl .nil) ⟨rfl, by assumption⟩
    · exfalso; omega
end Go.Proofs.Ytbmgigbedmgfpaa
