/- A label as it is read: label.ToUnicode, as far as it is asked. What stands between the dots: strings.Split at a name's text. A name as it is read: idna.Unicode. -/
import Derived.Test.YtahpiaaffeiadaaGreatDoorEpd
import Derived.Test.YtahpiaaffeiadaaGreatDoorEid
import Derived.Lib.Bytes2
import Derived.Shelf.Strings.SplitCore
import Derived.Lib.SplitLaws
namespace Go.Proofs.YtahpiaaffeiadaaGreatDoor
open Go Go.RowKit
def ptsN (ps : List Nat) : List Int := ps.map fun (c : Nat) => (c : Int)
theorem pts_len (ps : List Nat) : (ptsN ps).length = ps.length := by simp [ptsN]
theorem pts_r32 (ps : List Nat) : i32V (ptsN ps) = r32 ps := by simp [i32V, ptsN, r32]
theorem prefix_any (s p : List UInt8) (w : World) : Ret Tryz.prog 68 #[.string ⟨s.toArray⟩, .string ⟨p.toArray⟩] w fun v w' => v = .bool (Lib.hasPrefix s p) ∧ Ext w w' :=
  (Sh.strings_HasPrefix ⟨s.toArray⟩ ⟨p.toArray⟩ w).mono fun e w' ⟨he, hw⟩ => ⟨_, he, rfl, by rw [hw]; exact Ext.refl w⟩
/-- What ToUnicode may answer. -/
def readA (s u : List UInt8) : Prop := u = s ∨ ∃ ps : List Nat, allPt (ptsN ps) ∧ ps.length ≤ 63 ∧ u = encL (ptsN ps) ∧ toA u = (lowS s, 0)
theorem readA_len {s u : List UInt8} (h : readA s u) : u.length ≤ s.length + 252 := by
  rcases h with rfl | ⟨ps, _, h1, rfl, _⟩
  · omega
  · have := encL_len (ptsN ps)
    rw [pts_len] at this
    omega
theorem ltou_any (s : List UInt8) (w : World) (hl : s.length ≤ 1000) : Ret Tryz.prog 37 #[.string ⟨s.toArray⟩] w fun v w' => (∃ u, v = .string ⟨u.toArray⟩ ∧ readA s u) ∧ Ext w w' := by
  have hE0 := Ext.refl w
  refine Ret.body Tryz.func37 rfl Tryz.ntmps37 rfl ?_
  have hll : (lowS s).length = s.length := lowS_length s
  by_cases hh : hostL (lowS s)
  · have hdh : decide (hostL (lowS s)) = true := decide_eq_true hh
    have h63 : s.length ≤ 63 := by rw [← hll]; exact hh.2.1
    cases hp : Lib.hasPrefix (lowS s) xnB with
    | true =>
      have h4 : 4 ≤ (lowS s).length := Lib.hasPrefix_le hp
      refine Cd.seq ?_
      refine Cd.region ?_
      refine Seg.step rfl rfl (Yd.assign rfl) ?_
      refine Seg.nil ?_
      refine At.then_ ?_
      refine Cd.seq ?_
      refine Cd.region ?_
      refine Seg.step rfl rfl (Yd.move rfl) ?_
      (refine Seg.call rfl rfl (own_of rfl) rfl (lower_any s _ (by omega)) ?_; rintro _ w72 ⟨rfl, hE72⟩)
      replace hE0 := Ext.trans hE0 hE72
      refine Seg.step rfl rfl (Yd.assign rfl) ?_
      refine Seg.nil ?_
      refine At.then_ ?_
      refine Cd.seq ?_
      refine Cd.seq ?_
      refine Cd.region ?_
      refine Seg.step rfl rfl (Yd.move rfl) ?_
      (refine Seg.call rfl rfl (own_of rfl) rfl (lhost_any _ _ (by omega)) ?_; rw [hdh]; rintro _ w80 ⟨rfl, hE80⟩)
      replace hE72 := Ext.trans hE72 hE80
      replace hE0 := Ext.trans hE0 hE80
      refine Seg.step rfl rfl (Yd.not rfl) ?_
      refine Seg.step rfl rfl (Yd.move rfl) ?_
      refine Seg.step rfl rfl (Yd.move rfl) ?_
      (refine Seg.call rfl rfl (own_of rfl) rfl (prefix_any (lowS s) xnB _) ?_; rw [hp]; rintro _ w84 ⟨rfl, hE84⟩)
      replace hE80 := Ext.trans hE80 hE84
      replace hE72 := Ext.trans hE72 hE84
      replace hE0 := Ext.trans hE0 hE84
      refine Seg.step rfl rfl (Yd.not rfl) ?_
      refine Seg.step rfl rfl (Yd.pickF rfl rfl) ?_
      refine Seg.nil ?_
      refine At.then_ ?_
      refine Cd.condF rfl ?_
      refine Cd.skip ?_
      refine At.then_ ?_
      refine Cd.seq ?_
      refine Cd.region ?_
      refine Seg.step rfl rfl (Yd.move rfl) ?_
      refine Seg.step rfl rfl (Yd.slStrL rfl rfl rfl (NatOf.cast 4) (by omega)) ?_
      (refine Seg.call rfl rfl (own_of rfl) rfl (pdecode_any _ _ (by rw [List.length_drop]; omega)) ?_; rw [List.length_drop]; rintro _ w96 ⟨⟨ps, u, e, rfl, hps⟩, hE96⟩)
      replace hE84 := Ext.trans hE84 hE96
      replace hE80 := Ext.trans hE80 hE96
      replace hE72 := Ext.trans hE72 hE96
      replace hE0 := Ext.trans hE0 hE96
      refine Seg.step rfl rfl (Yd.move rfl) ?_
      refine Seg.step rfl rfl (Yd.extract rfl rfl) ?_
      refine Seg.step rfl rfl (Yd.extract rfl rfl) ?_
      refine Seg.step rfl rfl (Yd.assign rfl) ?_
      refine Seg.step rfl rfl (Yd.assign rfl) ?_
      refine Seg.nil ?_
      refine At.then_ ?_
      refine Cd.seq ?_
      refine Cd.seq ?_
      refine Cd.region ?_
      refine Seg.step rfl rfl (Yd.move rfl) ?_
      refine Seg.step rfl rfl (Yd.neq rfl rfl) ?_
      refine Seg.nil ?_
      refine At.then_ ?_
      refine Cd.condk rfl (fun h111 => ?_) (fun h111 => ?_)
      · refine Cd.seq ?_
        refine Cd.region ?_
        refine Seg.step rfl rfl (Yd.move rfl) ?_
        refine Seg.step rfl rfl (Yd.assign rfl) ?_
        refine Seg.nil ?_
        refine At.then_ ?_
        refine Cd.ret ?_
        refine At.then_ret ?_
        exact At.ret Tryz.results37 (.tmp rfl .nil) ⟨⟨s, rfl, .inl rfl⟩, hE0⟩
      refine Cd.skip ?_
      refine At.then_ ?_
      refine Cd.seq ?_
      obtain ⟨hO, hpl, _⟩ := hps (by omega)
      have hS := own_sl hO
      unfold OwnR at hO
      rw [← pts_r32, ← pts_len] at hS
      have hel := encL_len (ptsN ps)
      rw [pts_len] at hel
      by_cases hA : allPt (ptsN ps)
      · by_cases hfin : toA (encL (ptsN ps)) = (lowS s, 0)
        · refine Cd.region ?_
          refine Seg.step rfl rfl (Yd.move rfl) ?_
          (refine Seg.call rfl rfl (own_of rfl) rfl (utext_any (ptsN ps) u _ hS (by rw [pts_len]; omega)) ?_; rw [if_pos hA]; rintro _ w114 ⟨rfl, hE114⟩)
          replace hE96 := Ext.trans hE96 hE114
          replace hE84 := Ext.trans hE84 hE114
          replace hE80 := Ext.trans hE80 hE114
          replace hE72 := Ext.trans hE72 hE114
          replace hE0 := Ext.trans hE0 hE114
          replace hO := own_ext hO hE114
          replace hS := hS.ext hE114
          refine Seg.step rfl rfl (Yd.move rfl) ?_
          refine Seg.step rfl rfl (Yd.extract rfl rfl) ?_
          refine Seg.step rfl rfl (Yd.extract rfl rfl) ?_
          refine Seg.step rfl rfl (Yd.assign rfl) ?_
          refine Seg.step rfl rfl (Yd.assign rfl) ?_
          refine Seg.nil ?_
          refine At.then_ ?_
          refine Cd.seq ?_
          refine Cd.seq ?_
          refine Cd.region ?_
          refine Seg.step rfl rfl (Yd.move rfl) ?_
          refine Seg.step rfl rfl (Yd.neq rfl rfl) ?_
          refine Seg.nil ?_
          refine At.then_ ?_
          refine Cd.condF rfl ?_
          refine Cd.skip ?_
          refine At.then_ ?_
          refine Cd.seq ?_
          refine Cd.seq ?_
          refine Cd.region ?_
          refine Seg.step rfl rfl (Yd.move rfl) ?_
          (refine Seg.call rfl rfl (own_of rfl) rfl (ltoa_any (encL (ptsN ps)) _ (by omega)) ?_; rw [hfin]; rintro _ w136 ⟨rfl, hE136⟩)
          replace hE114 := Ext.trans hE114 hE136
          replace hE96 := Ext.trans hE96 hE136
          replace hE84 := Ext.trans hE84 hE136
          replace hE80 := Ext.trans hE80 hE136
          replace hE72 := Ext.trans hE72 hE136
          replace hE0 := Ext.trans hE0 hE136
          replace hO := own_ext hO hE136
          replace hS := hS.ext hE136
          refine Seg.step rfl rfl (Yd.move rfl) ?_
          refine Seg.step rfl rfl (Yd.extract rfl rfl) ?_
          refine Seg.step rfl rfl (Yd.extract rfl rfl) ?_
          refine Seg.step rfl rfl (Yd.assign rfl) ?_
          refine Seg.step rfl rfl (Yd.assign rfl) ?_
          refine Seg.nil ?_
          refine At.then_ ?_
          refine Cd.seq ?_
          refine Cd.region ?_
          refine Seg.step rfl rfl (Yd.move rfl) ?_
          refine Seg.step rfl rfl (Yd.neq rfl rfl) ?_
          refine Seg.step rfl rfl (Yd.move rfl) ?_
          refine Seg.step rfl rfl (Yd.move rfl) ?_
          refine Seg.step rfl rfl (Yd.move rfl) ?_
          refine Seg.step rfl rfl (Yd.neqS rfl rfl) ?_
          refine Seg.step rfl rfl (Yd.pickF rfl rfl) ?_
          refine Seg.nil ?_
          refine At.then_ ?_
          refine Cd.condk rfl (fun h155 => ?_) (fun h155 => ?_)
          · contradiction
          · refine Cd.skip ?_
            refine At.then_ ?_
            refine Cd.seq ?_
            refine Cd.region ?_
            refine Seg.step rfl rfl (Yd.move rfl) ?_
            refine Seg.step rfl rfl (Yd.assign rfl) ?_
            refine Seg.nil ?_
            refine At.then_ ?_
            refine Cd.ret ?_
            first | exact At.ret Tryz.results37 (.tmp rfl .nil) ⟨⟨s, rfl, .inl rfl⟩, hE0⟩ | exact At.ret Tryz.results37 (.tmp rfl .nil) ⟨⟨_, rfl, .inr ⟨ps, hA, by omega, rfl, hfin⟩⟩, hE0⟩
        · generalize hT : toA (encL (ptsN ps)) = T at hfin
          obtain ⟨a, e2⟩ := T
          by_cases he2 : e2 = 0
          · have hne : a ≠ lowS s := fun h => hfin (by rw [h, he2])
            refine Cd.region ?_
            refine Seg.step rfl rfl (Yd.move rfl) ?_
            (refine Seg.call rfl rfl (own_of rfl) rfl (utext_any (ptsN ps) u _ hS (by rw [pts_len]; omega)) ?_; rw [if_pos hA]; rintro _ w114 ⟨rfl, hE114⟩)
            replace hE96 := Ext.trans hE96 hE114
            replace hE84 := Ext.trans hE84 hE114
            replace hE80 := Ext.trans hE80 hE114
            replace hE72 := Ext.trans hE72 hE114
            replace hE0 := Ext.trans hE0 hE114
            replace hO := own_ext hO hE114
            replace hS := hS.ext hE114
            refine Seg.step rfl rfl (Yd.move rfl) ?_
            refine Seg.step rfl rfl (Yd.extract rfl rfl) ?_
            refine Seg.step rfl rfl (Yd.extract rfl rfl) ?_
            refine Seg.step rfl rfl (Yd.assign rfl) ?_
            refine Seg.step rfl rfl (Yd.assign rfl) ?_
            refine Seg.nil ?_
            refine At.then_ ?_
            refine Cd.seq ?_
            refine Cd.seq ?_
            refine Cd.region ?_
            refine Seg.step rfl rfl (Yd.move rfl) ?_
            refine Seg.step rfl rfl (Yd.neq rfl rfl) ?_
            refine Seg.nil ?_
            refine At.then_ ?_
            refine Cd.condF rfl ?_
            refine Cd.skip ?_
            refine At.then_ ?_
            refine Cd.seq ?_
            refine Cd.seq ?_
            refine Cd.region ?_
            refine Seg.step rfl rfl (Yd.move rfl) ?_
            (refine Seg.call rfl rfl (own_of rfl) rfl (ltoa_any (encL (ptsN ps)) _ (by omega)) ?_; rw [hT]; rintro _ w136 ⟨rfl, hE136⟩)
            replace hE114 := Ext.trans hE114 hE136
            replace hE96 := Ext.trans hE96 hE136
            replace hE84 := Ext.trans hE84 hE136
            replace hE80 := Ext.trans hE80 hE136
            replace hE72 := Ext.trans hE72 hE136
            replace hE0 := Ext.trans hE0 hE136
            replace hO := own_ext hO hE136
            replace hS := hS.ext hE136
            refine Seg.step rfl rfl (Yd.move rfl) ?_
            refine Seg.step rfl rfl (Yd.extract rfl rfl) ?_
            refine Seg.step rfl rfl (Yd.extract rfl rfl) ?_
            refine Seg.step rfl rfl (Yd.assign rfl) ?_
            refine Seg.step rfl rfl (Yd.assign rfl) ?_
            refine Seg.nil ?_
            refine At.then_ ?_
            refine Cd.seq ?_
            refine Cd.region ?_
            refine Seg.step rfl rfl (Yd.move rfl) ?_
            refine Seg.step rfl rfl (Yd.neq rfl rfl) ?_
            refine Seg.step rfl rfl (Yd.move rfl) ?_
            refine Seg.gsplitp rfl rfl (fun h149 => ?_) (fun h149 => ?_)
            · exfalso; omega
            · refine Seg.step rfl rfl (Yd.move rfl) ?_
              refine Seg.step rfl rfl (Yd.move rfl) ?_
              refine Seg.step rfl rfl (Yd.neqS rfl rfl) ?_
              refine Seg.step rfl rfl (Yd.pickF rfl rfl) ?_
              refine Seg.nil ?_
              refine At.then_ ?_
              refine Cd.condk rfl (fun h157 => ?_) (fun h157 => ?_)
              · refine Cd.seq ?_
                refine Cd.region ?_
                refine Seg.step rfl rfl (Yd.move rfl) ?_
                refine Seg.step rfl rfl (Yd.assign rfl) ?_
                refine Seg.nil ?_
                refine At.then_ ?_
                refine Cd.ret ?_
                refine At.then_ret ?_
                exact At.ret Tryz.results37 (.tmp rfl .nil) ⟨⟨s, rfl, .inl rfl⟩, hE0⟩
              · contradiction
          · refine Cd.region ?_
            refine Seg.step rfl rfl (Yd.move rfl) ?_
            (refine Seg.call rfl rfl (own_of rfl) rfl (utext_any (ptsN ps) u _ hS (by rw [pts_len]; omega)) ?_; rw [if_pos hA]; rintro _ w114 ⟨rfl, hE114⟩)
            replace hE96 := Ext.trans hE96 hE114
            replace hE84 := Ext.trans hE84 hE114
            replace hE80 := Ext.trans hE80 hE114
            replace hE72 := Ext.trans hE72 hE114
            replace hE0 := Ext.trans hE0 hE114
            replace hO := own_ext hO hE114
            replace hS := hS.ext hE114
            refine Seg.step rfl rfl (Yd.move rfl) ?_
            refine Seg.step rfl rfl (Yd.extract rfl rfl) ?_
            refine Seg.step rfl rfl (Yd.extract rfl rfl) ?_
            refine Seg.step rfl rfl (Yd.assign rfl) ?_
            refine Seg.step rfl rfl (Yd.assign rfl) ?_
            refine Seg.nil ?_
            refine At.then_ ?_
            refine Cd.seq ?_
            refine Cd.seq ?_
            refine Cd.region ?_
            refine Seg.step rfl rfl (Yd.move rfl) ?_
            refine Seg.step rfl rfl (Yd.neq rfl rfl) ?_
            refine Seg.nil ?_
            refine At.then_ ?_
            refine Cd.condF rfl ?_
            refine Cd.skip ?_
            refine At.then_ ?_
            refine Cd.seq ?_
            refine Cd.seq ?_
            refine Cd.region ?_
            refine Seg.step rfl rfl (Yd.move rfl) ?_
            (refine Seg.call rfl rfl (own_of rfl) rfl (ltoa_any (encL (ptsN ps)) _ (by omega)) ?_; rw [hT]; rintro _ w136 ⟨rfl, hE136⟩)
            replace hE114 := Ext.trans hE114 hE136
            replace hE96 := Ext.trans hE96 hE136
            replace hE84 := Ext.trans hE84 hE136
            replace hE80 := Ext.trans hE80 hE136
            replace hE72 := Ext.trans hE72 hE136
            replace hE0 := Ext.trans hE0 hE136
            replace hO := own_ext hO hE136
            replace hS := hS.ext hE136
            refine Seg.step rfl rfl (Yd.move rfl) ?_
            refine Seg.step rfl rfl (Yd.extract rfl rfl) ?_
            refine Seg.step rfl rfl (Yd.extract rfl rfl) ?_
            refine Seg.step rfl rfl (Yd.assign rfl) ?_
            refine Seg.step rfl rfl (Yd.assign rfl) ?_
            refine Seg.nil ?_
            refine At.then_ ?_
            refine Cd.seq ?_
            refine Cd.region ?_
            refine Seg.step rfl rfl (Yd.move rfl) ?_
            refine Seg.step rfl rfl (Yd.neq rfl rfl) ?_
            refine Seg.step rfl rfl (Yd.move rfl) ?_
            refine Seg.gsplitp rfl rfl (fun h149 => ?_) (fun h149 => ?_)
            · refine Seg.skip rfl rfl ?_
              refine Seg.skip rfl rfl ?_
              refine Seg.skip rfl rfl ?_
              refine Seg.step rfl rfl (Yd.pickT rfl rfl) ?_
              refine Seg.nil ?_
              refine At.then_ ?_
              refine Cd.condT rfl ?_
              refine Cd.seq ?_
              refine Cd.region ?_
              refine Seg.step rfl rfl (Yd.move rfl) ?_
              refine Seg.step rfl rfl (Yd.assign rfl) ?_
              refine Seg.nil ?_
              refine At.then_ ?_
              refine Cd.ret ?_
              refine At.then_ret ?_
              exact At.ret Tryz.results37 (.tmp rfl .nil) ⟨⟨s, rfl, .inl rfl⟩, hE0⟩
            · exfalso; omega
      · refine Cd.region ?_
        refine Seg.step rfl rfl (Yd.move rfl) ?_
        (refine Seg.call rfl rfl (own_of rfl) rfl (utext_any (ptsN ps) u _ hS (by rw [pts_len]; omega)) ?_; rw [if_neg hA]; rintro _ w114 ⟨rfl, hE114⟩)
        replace hE96 := Ext.trans hE96 hE114
        replace hE84 := Ext.trans hE84 hE114
        replace hE80 := Ext.trans hE80 hE114
        replace hE72 := Ext.trans hE72 hE114
        replace hE0 := Ext.trans hE0 hE114
        replace hO := own_ext hO hE114
        replace hS := hS.ext hE114
        refine Seg.step rfl rfl (Yd.move rfl) ?_
        refine Seg.step rfl rfl (Yd.extract rfl rfl) ?_
        refine Seg.step rfl rfl (Yd.extract rfl rfl) ?_
        refine Seg.step rfl rfl (Yd.assign rfl) ?_
        refine Seg.step rfl rfl (Yd.assign rfl) ?_
        refine Seg.nil ?_
        refine At.then_ ?_
        refine Cd.seq ?_
        refine Cd.seq ?_
        refine Cd.region ?_
        refine Seg.step rfl rfl (Yd.move rfl) ?_
        refine Seg.step rfl rfl (Yd.neq rfl rfl) ?_
        refine Seg.nil ?_
        refine At.then_ ?_
        refine Cd.condT rfl ?_
        refine Cd.seq ?_
        refine Cd.region ?_
        refine Seg.step rfl rfl (Yd.move rfl) ?_
        refine Seg.step rfl rfl (Yd.assign rfl) ?_
        refine Seg.nil ?_
        refine At.then_ ?_
        refine Cd.ret ?_
        refine At.then_ret ?_
        exact At.ret Tryz.results37 (.tmp rfl .nil) ⟨⟨s, rfl, .inl rfl⟩, hE0⟩
    | false =>
      refine Cd.seq ?_
      refine Cd.region ?_
      refine Seg.step rfl rfl (Yd.assign rfl) ?_
      refine Seg.nil ?_
      refine At.then_ ?_
      refine Cd.seq ?_
      refine Cd.region ?_
      refine Seg.step rfl rfl (Yd.move rfl) ?_
      (refine Seg.call rfl rfl (own_of rfl) rfl (lower_any s _ (by omega)) ?_; rintro _ w72 ⟨rfl, hE72⟩)
      replace hE0 := Ext.trans hE0 hE72
      refine Seg.step rfl rfl (Yd.assign rfl) ?_
      refine Seg.nil ?_
      refine At.then_ ?_
      refine Cd.seq ?_
      refine Cd.seq ?_
      refine Cd.region ?_
      refine Seg.step rfl rfl (Yd.move rfl) ?_
      (refine Seg.call rfl rfl (own_of rfl) rfl (lhost_any _ _ (by omega)) ?_; rw [hdh]; rintro _ w80 ⟨rfl, hE80⟩)
      replace hE72 := Ext.trans hE72 hE80
      replace hE0 := Ext.trans hE0 hE80
      refine Seg.step rfl rfl (Yd.not rfl) ?_
      refine Seg.step rfl rfl (Yd.move rfl) ?_
      refine Seg.step rfl rfl (Yd.move rfl) ?_
      (refine Seg.call rfl rfl (own_of rfl) rfl (prefix_any (lowS s) xnB _) ?_; rw [hp]; rintro _ w84 ⟨rfl, hE84⟩)
      replace hE80 := Ext.trans hE80 hE84
      replace hE72 := Ext.trans hE72 hE84
      replace hE0 := Ext.trans hE0 hE84
      refine Seg.step rfl rfl (Yd.not rfl) ?_
      refine Seg.step rfl rfl (Yd.pickF rfl rfl) ?_
      refine Seg.nil ?_
      refine At.then_ ?_
      refine Cd.condT rfl ?_
      refine Cd.seq ?_
      refine Cd.region ?_
      refine Seg.step rfl rfl (Yd.move rfl) ?_
      refine Seg.step rfl rfl (Yd.assign rfl) ?_
      refine Seg.nil ?_
      refine At.then_ ?_
      refine Cd.ret ?_
      refine At.then_ret ?_
      exact At.ret Tryz.results37 (.tmp rfl .nil) ⟨⟨s, rfl, .inl rfl⟩, hE0⟩
  · have hdh : decide (hostL (lowS s)) = false := decide_eq_false hh
    refine Cd.seq ?_
    refine Cd.region ?_
    refine Seg.step rfl rfl (Yd.assign rfl) ?_
    refine Seg.nil ?_
    refine At.then_ ?_
    refine Cd.seq ?_
    refine Cd.region ?_
    refine Seg.step rfl rfl (Yd.move rfl) ?_
    (refine Seg.call rfl rfl (own_of rfl) rfl (lower_any s _ (by omega)) ?_; rintro _ w9 ⟨rfl, hE9⟩)
    replace hE0 := Ext.trans hE0 hE9
    refine Seg.step rfl rfl (Yd.assign rfl) ?_
    refine Seg.nil ?_
    refine At.then_ ?_
    refine Cd.seq ?_
    refine Cd.seq ?_
    refine Cd.region ?_
    refine Seg.step rfl rfl (Yd.move rfl) ?_
    (refine Seg.call rfl rfl (own_of rfl) rfl (lhost_any _ _ (by omega)) ?_; rw [hdh]; rintro _ w17 ⟨rfl, hE17⟩)
    replace hE9 := Ext.trans hE9 hE17
    replace hE0 := Ext.trans hE0 hE17
    refine Seg.step rfl rfl (Yd.not rfl) ?_
    refine Seg.step rfl rfl (Yd.move rfl) ?_
    refine Seg.skip rfl rfl ?_
    refine Seg.skip rfl rfl ?_
    refine Seg.skip rfl rfl ?_
    refine Seg.step rfl rfl (Yd.pickT rfl rfl) ?_
    refine Seg.nil ?_
    refine At.then_ ?_
    refine Cd.condT rfl ?_
    refine Cd.seq ?_
    refine Cd.region ?_
    refine Seg.step rfl rfl (Yd.move rfl) ?_
    refine Seg.step rfl rfl (Yd.assign rfl) ?_
    refine Seg.nil ?_
    refine At.then_ ?_
    refine Cd.ret ?_
    refine At.then_ret ?_
    exact At.ret Tryz.results37 (.tmp rfl .nil) ⟨⟨s, rfl, .inl rfl⟩, hE0⟩
end Go.Proofs.YtahpiaaffeiadaaGreatDoor
namespace Go.Proofs.YtahpiaaffeiadaaGreatDoor
open Go Go.RowKit
def pcs (n : List (List UInt8)) (d : Bool) : List (List UInt8) := n ++ (if d then [[]] else [])
def nodotN (n : List (List UInt8)) : Prop := ∀ l ∈ n, (46 : UInt8) ∉ l
theorem idx_hit : ∀ (l r : List UInt8), (46 : UInt8) ∉ l → Lib.index (l ++ 46 :: r) [46] = (l.length : Int)
  | [], r, _ => by
    show Lib.index (46 :: r) [46] = _
    rw [Lib.index, if_pos (by simp [List.isPrefixOf])]; rfl
  | b :: l, r, h => by
    have hb : b ≠ 46 := fun e => h (by rw [e]; exact List.mem_cons_self)
    have ih := idx_hit l r (fun e => h (List.mem_cons_of_mem _ e))
    show Lib.index (b :: (l ++ 46 :: r)) [46] = _
    rw [Lib.index, if_neg (by simpa [List.isPrefixOf] using fun e : (46 : UInt8) = b => hb e.symm), ih, if_neg (by simp only [beq_iff_eq]; omega)]
    simp
theorem idx_miss : ∀ (l : List UInt8), (46 : UInt8) ∉ l → Lib.index l [46] = -1
  | [], _ => rfl
  | b :: l, h => by
    have hb : b ≠ 46 := fun e => h (by rw [e]; exact List.mem_cons_self)
    have ih := idx_miss l (fun e => h (List.mem_cons_of_mem _ e))
    rw [Lib.index, if_neg (by simpa [List.isPrefixOf] using fun e : (46 : UInt8) = b => hb e.symm), ih]
    rfl
theorem splitK_txt : ∀ (n : List (List UInt8)) (d : Bool), nodotN n → (n = [] → d = true) → Lib.splitK [46] 0 (Lib.count (txtN n d) [46]) (txtN n d) = pcs n d
  | [], d, _, h => by
    rw [h rfl]
    rfl
  | l :: m, d, hn, _ => by
    have hl := hn l List.mem_cons_self
    obtain ⟨r, hr, hc⟩ := txt_split l m d
    rw [hr]
    rcases hc with ⟨rfl, rfl, rfl⟩ | ⟨rfl, hd⟩
    · rw [List.append_nil, Lib.count_miss (idx_miss l hl)]
      rfl
    · have hi := idx_hit l (txtN m d) hl
      have hdr : (l ++ 46 :: txtN m d).drop (l.length + 1) = txtN m d := by
        rw [List.drop_append]
        simp
      have htk : (l ++ 46 :: txtN m d).take l.length = l := by simp
      have hco := Lib.count_hit (sub := [46]) (by simp) hi
      rw [show l.length + ([46] : List UInt8).length = l.length + 1 from rfl, hdr] at hco
      rw [hco, Nat.add_comm, Lib.splitK, hi, if_neg (by simp only [beq_iff_eq]; omega)]
      have e1 : (l.length : Int).toNat = l.length := by omega
      rw [e1, Nat.add_zero, htk, show l.length + ([46] : List UInt8).length = l.length + 1 from rfl, hdr, splitK_txt m d (fun x hx => hn x (List.mem_cons_of_mem _ hx)) hd]
      rfl
theorem count_len (s : List UInt8) : Lib.count s [46] ≤ s.length := by rw [Lib.count_one]; exact List.count_le_length
theorem gsplit_any (n : List (List UInt8)) (d : Bool) (w : World) (hn : nodotN n) (h0 : n ≠ []) (hz : (txtN n d).length ≤ 1000000) : Ret Tryz.prog 67 #[.string ⟨(txtN n d).toArray⟩, .string ⟨#[46]⟩, .int .i64 0, .int .i64 (-1)] w fun v w' =>
    (∃ c, v = .slice (some ⟨w.heap.size, 0, none⟩) (pcs n d).length c ∧ (pcs n d).length ≤ c) ∧ Bx w' w.heap.size (strV (pcs n d)) ∧ Ext w w' := by
  have hs : (ByteArray.mk (txtN n d).toArray).size = (txtN n d).length := List.size_toArray
  have hcl := count_len (txtN n d)
  have core := Any.strings_genSplit_core Sh.lays221 (by kernel_rfl) ⟨(txtN n d).toArray⟩ ⟨#[46]⟩ 0 (-1) (Lib.count (txtN n d) [46] + 1) w (by rw [hs]; omega) (by decide) (by decide)
    (fun x c _ => (Any.strings_Index_one { Sh.lays221 with } x 46 _).mono fun e w' ⟨he, hw⟩ => ⟨by rw [he]; show _ = Ending.returned (.int .i64 (Lib.index x.data.toList [46])); rw [Lib.index_one], hw⟩)
    ((Any.strings_Count_one { Sh.lays221 with } ⟨(txtN n d).toArray⟩ 46 w).mono fun e w' ⟨he, hw⟩ => ⟨by rw [he]; show _ = Ending.returned (.int .i64 ((Lib.count (txtN n d) [46] : Nat) : Int)); rw [Lib.count_one]; rfl, hw⟩)
    (by decide) (by decide) (by rw [if_pos (by decide), hs]; show _ = min ((Lib.count (txtN n d) [46] : Nat) + 1 : Int) _; omega)
  have hall := Lib.splitB_all ⟨#[46]⟩ (by decide) 0 _ ⟨(txtN n d).toArray⟩ rfl
  have hdat := Lib.splitB_data ⟨#[46]⟩ 0 (Lib.count (txtN n d) [46]) ⟨(txtN n d).toArray⟩
  have hpcs : (Lib.splitB ⟨#[46]⟩ 0 (Lib.count (txtN n d) [46]) ⟨(txtN n d).toArray⟩).map (fun b : ByteArray => b.data.toList) = pcs n d := hdat.trans (splitK_txt n d hn (fun h => absurd h h0))
  have hall : (Lib.splitB ⟨#[46]⟩ 0 (Lib.count (txtN n d) [46]) ⟨(txtN n d).toArray⟩).length = Lib.count (txtN n d) [46] + 1 := hall
  have hlen : (pcs n d).length = Lib.count (txtN n d) [46] + 1 := by rw [← hpcs, List.length_map, hall]
  have hcells : (Lib.splitB ⟨#[46]⟩ 0 (Lib.count (txtN n d) [46]) ⟨(txtN n d).toArray⟩).map Value.string = strV (pcs n d) := by
    rw [← hpcs]
    unfold strV
    rw [List.map_map]
    rfl
  refine core.mono fun e w' ⟨he, hw⟩ => ⟨_, he, ⟨_, by rw [Nat.add_sub_cancel, hall, ← hlen], Nat.le_refl _⟩, ?_, ?_⟩
  · rw [hw, Nat.add_sub_cancel, ← hall, Lib.cellsOf_full, hcells]
    exact Bx.new w _ _
  · rw [hw]; exact Ext.alloc w _
theorem ssplit_any (n : List (List UInt8)) (d : Bool) (w : World) (hn : nodotN n) (h0 : n ≠ []) (hz : (txtN n d).length ≤ 1000000) : Ret Tryz.prog 36 #[.string ⟨(txtN n d).toArray⟩, .string ⟨#[46]⟩] w fun v w' =>
    (∃ b c, v = .slice (some ⟨b, 0, none⟩) (pcs n d).length c ∧ (pcs n d).length ≤ c ∧ w.heap.size ≤ b ∧ Bx w' b (strV (pcs n d))) ∧ Ext w w' := by
  have hE0 := Ext.refl w
  refine Ret.body Tryz.func36 rfl Tryz.ntmps36 rfl ?_
  refine Cd.seq ?_
  refine Cd.region ?_
  refine Seg.step rfl rfl (Yd.assign rfl) ?_
  refine Seg.nil ?_
  refine At.then_ ?_
  refine Cd.seq ?_
  refine Cd.region ?_
  refine Seg.step rfl rfl (Yd.move rfl) ?_
  refine Seg.step rfl rfl (Yd.move rfl) ?_
  (refine Seg.call rfl rfl (own_of rfl) rfl (gsplit_any n d _ hn h0 hz) ?_; rintro _ w10 ⟨⟨c, rfl, hc⟩, hB, hE10⟩)
  replace hE0 := Ext.trans hE0 hE10
  refine Seg.step rfl rfl (Yd.assign rfl) ?_
  refine Seg.nil ?_
  refine At.then_ ?_
  refine Cd.ret ?_
  exact At.ret Tryz.results36 (.tmp rfl .nil) ⟨⟨_, _, rfl, hc, Nat.le_refl _, hB⟩, hE0⟩
end Go.Proofs.YtahpiaaffeiadaaGreatDoor
namespace Go.Proofs.YtahpiaaffeiadaaGreatDoor
open Go Go.RowKit
theorem szN_bd2 {n : List (List UInt8)} (h : ∀ a ∈ n, a.length ≤ 400) : szN n ≤ 1 + 401 * n.length := by
  unfold szN
  induction n with
  | nil => simp
  | cons a n ih =>
    have h1 := h a List.mem_cons_self
    have h2 := ih fun b hb => h b (List.mem_cons_of_mem _ hb)
    simp only [List.map_cons, List.sum_cons, List.length_cons] at h2 ⊢
    omega
/-- What these pieces may be read as. -/
def readN : List (List UInt8) → List (List UInt8) → Prop
  | [], us => us = []
  | t :: ts, us => ∃ u r, us = u :: r ∧ readA t u ∧ readN ts r
theorem readN_len : ∀ (ts us : List (List UInt8)), readN ts us → us.length = ts.length
  | [], us, h => by cases h; rfl
  | t :: ts, us, h => by
    obtain ⟨u, r, rfl, _, hr⟩ := h
    rw [List.length_cons, List.length_cons, readN_len ts r hr]
theorem readN_snoc : ∀ (ts us : List (List UInt8)) (t u : List UInt8), readN ts us → readA t u → readN (ts ++ [t]) (us ++ [u])
  | [], us, t, u, h, hu => by cases h; exact ⟨u, [], rfl, hu, rfl⟩
  | a :: ts, us, t, u, h, hu => by
    obtain ⟨x, r, rfl, hx, hr⟩ := h
    exact ⟨x, r ++ [u], rfl, hx, readN_snoc ts r t u hr hu⟩
theorem readN_mem : ∀ (ts us : List (List UInt8)), readN ts us → (∀ t ∈ ts, t.length ≤ 63) → ∀ u ∈ us, u.length ≤ 400
  | [], us, h, _, u, hu => by cases h; cases hu
  | t :: ts, us, h, hl, u, hu => by
    obtain ⟨x, r, rfl, hx, hr⟩ := h
    rcases List.mem_cons.1 hu with rfl | hu
    · have := readA_len hx
      have := hl t List.mem_cons_self
      omega
    · exact readN_mem ts r hr (fun a ha => hl a (List.mem_cons_of_mem _ ha)) u hu
structure UnS where
  i : Nat
  us : List (List UInt8)
theorem iunicode_any (n : List (List UInt8)) (d : Bool) (w : World) (hn : nodotN n) (h0 : n ≠ []) (h63 : ∀ t ∈ n, t.length ≤ 63) (hz : szN n ≤ 1000) : Ret Tryz.prog 12 #[.string ⟨(txtN n d).toArray⟩] w fun v w' =>
    (∃ us, v = .string ⟨(txtN us false).toArray⟩ ∧ readN (pcs n d) us) ∧ Ext w w' := by
  have hE0 := Ext.refl w
  refine Ret.body Tryz.func12 rfl Tryz.ntmps12 rfl ?_
  have htl := txt_len n d
  have hnl := szN_len n
  obtain ⟨ts, hts⟩ : ∃ ts, ts = pcs n d := ⟨_, rfl⟩
  have htsl : ts.length ≤ 1001 := by
    rw [hts]; unfold pcs; rw [List.length_append]
    have : (if d then [[]] else [] : List (List UInt8)).length ≤ 1 := by cases d <;> decide
    omega
  have hts63 : ∀ t ∈ ts, t.length ≤ 63 := by
    intro t ht
    rw [hts] at ht
    rcases List.mem_append.1 ht with h | h
    · exact h63 t h
    · cases d
      · cases h
      · rw [if_pos rfl, List.mem_singleton] at h
        rw [h]; exact Nat.zero_le _
  refine Cd.seq ?_
  refine Cd.region ?_
  refine Seg.step rfl rfl (Yd.assign rfl) ?_
  refine Seg.nil ?_
  refine At.then_ ?_
  refine Cd.seq ?_
  refine Cd.region ?_
  refine Seg.step rfl rfl (Yd.move rfl) ?_
  (refine Seg.call rfl rfl (own_of rfl) rfl (ssplit_any n d _ hn h0 (by omega)) ?_; rw [← hts]; rintro _ w72 ⟨⟨b, c, rfl, hc, hb, hB⟩, hE72⟩)
  replace hE0 := Ext.trans hE0 hE72
  refine Seg.step rfl rfl (Yd.assign rfl) ?_
  refine Seg.nil ?_
  refine At.then_ ?_
  refine Cd.seq ?_
  refine Cd.seq ?_
  refine Cd.region ?_
  refine Seg.step rfl rfl (Yd.move rfl) ?_
  refine Seg.step rfl rfl (Yd.lenS rfl rfl) ?_
  refine Seg.step rfl rfl (Yd.move rfl) ?_
  refine Seg.nil ?_
  refine At.then_ ?_
  refine Cd.block ?_
  refine Cd.loop (σ := UnS) (fun t => [(3, .slice (some ⟨b, 0, none⟩) ts.length c), (8, .slice (some ⟨b, 0, none⟩) ts.length c), (9, .int .i64 (ts.length : Int)), (10, .int .i64 (t.i : Int))])
    (fun t w' => (t.i ≤ ts.length ∧ readN (ts.take t.i) t.us) ∧ Bx w' b (strV (t.us ++ ts.drop t.i)) ∧ Ext w w') (fun t => ts.length - t.i) ⟨0, []⟩ (.cons rfl (.cons rfl (.cons rfl (.cons rfl (.nil _))))) ⟨⟨Nat.zero_le _, rfl⟩, hB, hE0⟩ ?_
  clear hE0 hB
  rintro ⟨i, us⟩ w1 ⟨⟨h1, h2⟩, hB, hE0⟩
  simp only at h1 h2 hB ⊢
  have hul := readN_len _ _ h2
  rw [List.length_take, Nat.min_eq_left h1] at hul
  have kr : Keep (readN (ts.take i) us) := h2
  clear h2
  by_cases hlt : i < ts.length
  · obtain ⟨t, ht⟩ : ∃ t, ts[i]? = some t := ⟨_, List.getElem?_eq_getElem hlt⟩
    have htm := hts63 t (List.mem_of_getElem? ht)
    have hta : (us ++ ts.drop i)[i]? = some t := by
      rw [List.getElem?_append_right (by omega), hul, Nat.sub_self, List.getElem?_drop, Nat.add_zero, ht]
    have hset : ∀ u, (strV (us ++ ts.drop i)).set i (.string ⟨u.toArray⟩) = strV ((us ++ [u]) ++ ts.drop (i + 1)) := by
      intro u
      have e : ts.drop i = t :: ts.drop (i + 1) := by
        rw [List.drop_eq_getElem_cons hlt]
        rw [List.getElem?_eq_getElem hlt] at ht
        cases ht
        rfl
      rw [e]
      unfold strV
      rw [List.map_append, List.set_append_right _ _ (by rw [List.length_map]; omega), List.length_map, hul, Nat.sub_self]
      simp
    have htk : ts.take (i + 1) = ts.take i ++ [t] := by rw [List.take_add_one, ht]; rfl
    have hBl : i < (strV (us ++ ts.drop i)).length := by rw [strV_length, List.length_append, List.length_drop]; omega
    refine Cd.seq ?_
    refine Cd.region ?_
    refine Seg.step rfl rfl (Yd.lss rfl rfl) ?_
    refine Seg.nil ?_
    refine At.then_ ?_
    refine Cd.seq ?_
    refine Cd.condk rfl (fun h79 => ?_) (fun h79 => ?_)
    · refine Cd.skip ?_
      refine At.then_ ?_
      refine Cd.seq ?_
      refine Cd.block ?_
      refine Cd.seq ?_
      refine Cd.region ?_
      refine Seg.step rfl rfl (Yd.move rfl) ?_
      refine Seg.step rfl rfl (Yd.indexAddr1 rfl rfl rfl (NatOf.cast _) (by omega)) ?_
      refine Seg.step rfl rfl (Yd.load1 rfl rfl (hB.row _ _ (strV_at hta))) ?_
      refine Seg.step rfl rfl (Yd.assign rfl) ?_
      refine Seg.step rfl rfl (Yd.assign rfl) ?_
      refine Seg.nil ?_
      refine At.then_ ?_
      refine Cd.region ?_
      refine Seg.step rfl rfl (Yd.move rfl) ?_
      refine Seg.step rfl rfl (Yd.move rfl) ?_
      refine Seg.step rfl rfl (Yd.move rfl) ?_
      (refine Seg.call rfl rfl (own_of rfl) rfl (ltou_any t _ (by omega)) ?_; rintro _ w98 ⟨⟨u, rfl, hu⟩, hE98⟩)
      replace hB := hB.ext hE98
      replace hE0 := Ext.trans hE0 hE98
      refine Seg.step rfl rfl (Yd.indexAddr1 rfl rfl rfl (NatOf.cast _) (by omega)) ?_
      (refine Seg.store1 (k := i) rfl rfl rfl rfl rfl hB hBl (fun w100 hW100 hB100 => ?_); rw [hset u] at hB100; have hE7 := Ext.wr' hE0 hW100 hb; have hB8 := hB100; clear hB100)
      refine Seg.nil ?_
      refine At.blk ?_
      refine At.then_ ?_
      refine Cd.region ?_
      refine Seg.step rfl rfl (Yd.addI rfl rfl (by omega)) ?_
      refine Seg.step rfl rfl (Yd.move rfl) ?_
      refine Seg.nil ?_
      exact At.round (⟨i + 1, us ++ [u]⟩ : UnS) (.cons rfl (.cons rfl (.cons rfl (.cons rfl (.nil _))))) ⟨⟨hlt, by rw [htk]; exact readN_snoc _ _ _ _ kr hu⟩, hB8, hE7⟩ (Nat.sub_lt_sub_left hlt (Nat.lt_succ_self i))
    · exfalso; omega
  · have hil : ts.take i = ts := List.take_of_length_le (by omega)
    have hid : ts.drop i = [] := List.drop_eq_nil_of_le (by omega)
    have hi : i = ts.length := by omega
    rw [hid, List.append_nil] at hB
    rw [hil] at kr
    have hsz := szN_bd2 (readN_mem _ _ kr hts63)
    have hul2 : us.length = ts.length := by omega
    rw [← hul2] at *
    refine Cd.seq ?_
    refine Cd.region ?_
    refine Seg.step rfl rfl (Yd.lss rfl rfl) ?_
    refine Seg.nil ?_
    refine At.then_ ?_
    refine Cd.seq ?_
    refine Cd.condk rfl (fun h79 => ?_) (fun h79 => ?_)
    · exfalso; omega
    · refine Cd.exit ?_
      refine At.then_exit ?_
      refine At.then_exit ?_
      refine At.blk_same ?_
      refine At.then_ ?_
      refine Cd.seq ?_
      refine Cd.region ?_
      refine Seg.step rfl rfl (Yd.move rfl) ?_
      (refine Seg.call rfl rfl (own_of rfl) rfl (ajoin_any us b c _ hB.row hB.lt (by omega) (by omega)) ?_; rintro _ w89 ⟨rfl, hE89⟩)
      replace hB := hB.ext hE89
      replace hE0 := Ext.trans hE0 hE89
      refine Seg.step rfl rfl (Yd.assign rfl) ?_
      refine Seg.nil ?_
      refine At.then_ ?_
      refine Cd.ret ?_
      exact At.ret Tryz.results12 (.tmp rfl .nil) ⟨⟨us, rfl, kr⟩, hE0⟩
