/- The law of finding. -/
import Derived.Test.YtbmgigbedmgfpaaWks20
namespace Go.Proofs.Ytbmgigbedmgfpaa
open Go Go.RowKit
theorem law_find (X : List Sv) (n : List UInt8) (x0 x1 : Int) (v : Value) (w : World) (h : SvOk (fun _ => False) w X ∧ Sl w 3 v X.length (X.flatMap svV)) (hl : X.length ≤ 4611686018427387904) (hn : n.length ≤ 4611686018427387904) (hs : ∀ x ∈ X, x.2.names.length ≤ 4611686018427387904) :
    Ret Try.prog 5 #[v, .string ⟨n.toArray⟩, .agg #[.int .i64 x0, .int .i64 x1]] w fun r w' => r = .bool true ∧ Ext w w' := by
  have hE0 := Ext.refl w
  obtain ⟨hO, hS⟩ := h
  have hS' := hS
  obtain ⟨ao, c, rfl, -, -, -⟩ := hS'
  refine Ret.body Try.func5 rfl Try.ntmps5 rfl ?_
  by_cases hp : X.length ≤ 60
  · by_cases hq : n.length ≤ 1000
    · refine Cd.seq ?_
      refine Cd.region ?_
      refine Seg.box rfl rfl rfl (fun w3 b3 hE3 hB3 hb3 => ?_)
      have hlt3_0 := Nat.le_trans hE0.size hb3
      replace hE0 := Ext.trans hE0 hE3
      replace hO := hO.ext hE3
      replace hS := hS.ext hE3
      refine Seg.step rfl rfl (Yd.assign rfl) ?_
      refine Seg.nil ?_
      refine At.then_ ?_
      refine Cd.seq ?_
      refine Cd.seq ?_
      refine Cd.region ?_
      refine Seg.step rfl rfl (Yd.move rfl) ?_
      refine Seg.step rfl rfl (Yd.lenS rfl rfl) ?_
      refine Seg.step rfl rfl (Yd.gtr rfl rfl) ?_
      refine Seg.step rfl rfl (Yd.move rfl) ?_
      refine Seg.gsplitp rfl rfl (fun h14 => ?_) (fun h14 => ?_)
      · exfalso; omega
      refine Seg.step rfl rfl (Yd.move rfl) ?_
      refine Seg.step rfl rfl (Yd.lenStr rfl rfl) ?_
      refine Seg.step rfl rfl (Yd.gtr rfl rfl) ?_
      refine Seg.step rfl rfl (Yd.pickF rfl rfl) ?_
      refine Seg.nil ?_
      refine At.then_ ?_
      refine Cd.condk rfl (fun h22 => ?_) (fun h22 => ?_)
      · exfalso; omega
      refine Cd.skip ?_
      refine At.then_ ?_
      refine Cd.seq ?_
      refine Cd.seq ?_
      refine Cd.region ?_
      refine Seg.step rfl rfl (Yd.assign rfl) ?_
      refine Seg.nil ?_
      refine At.then_ ?_
      refine Cd.block ?_
      obtain ⟨bx, hbx⟩ : ∃ bx, bx = b3 := ⟨_, rfl⟩
      rw [← hbx]
      have hB : Bx w3 bx [.int .i64 x0, .int .i64 x1] := by rw [hbx]; exact hB3
      clear hB3
      refine Cd.loop (σ := Nat) (fun i => [(0, .slice ao X.length c), (1, .string ⟨n.toArray⟩), (5, .pointer (some ⟨bx, 0, none⟩)), (6, .bool false), (7, .int .i64 (i : Int))])
        (fun i w' => i ≤ X.length ∧ (∀ x ∈ X.take i, x.2.names.length ≤ 1000000) ∧ SvOk (fun _ => False) w' X ∧ Sl w' 3 (.slice ao X.length c) X.length (X.flatMap svV) ∧ Bx w' bx [.int .i64 x0, .int .i64 x1] ∧ Ext w w') (fun i => X.length - i) 0 (.cons rfl (.cons rfl (.cons rfl (.cons rfl (.cons rfl (.nil _))))))
        ⟨Nat.zero_le _, (fun x h => by simp at h), hO, hS, hB, hE0⟩ ?_
      clear hO hS hB hE0
      rintro i w0 ⟨hi, hT, hO, hS, hB, hE0⟩
      by_cases hlt : i < X.length
      · obtain ⟨x, hx⟩ : ∃ x, X[i]? = some x := ⟨_, List.getElem?_eq_getElem hlt⟩
        obtain ⟨u, s⟩ := x
        have hsl := hs _ (List.mem_of_getElem? hx)
        have hnm := (hO _ (List.mem_of_getElem? hx)).1
        simp only at hsl hnm
        obtain ⟨ua, uc, rfl, -, -, -⟩ := hnm
        obtain ⟨d, rfl, hrow⟩ : ∃ d, ao = some d ∧ Row w0 (Addr.add d (i * 3)) (svV (.slice ua s.names.length uc, s)) := by
          obtain ⟨ao', c', e, _, hr, hz⟩ := hS
          cases e
          cases ao with
          | none => have := hz rfl; omega
          | some d => exact ⟨d, rfl, flat_row (cel := svV) (zs := []) svV_len (by simpa using hr d rfl) hx⟩
        have hT' : s.names.length ≤ 20 → ∀ x ∈ X.take (i + 1), x.2.names.length ≤ 1000000 := fun h => take_all hT hx (by simp only; omega)
        refine Cd.seq ?_
        refine Cd.seq ?_
        refine Cd.region ?_
        refine Seg.step rfl rfl (Yd.move rfl) ?_
        refine Seg.step rfl rfl (Yd.move rfl) ?_
        refine Seg.step rfl rfl (Yd.lenS rfl rfl) ?_
        refine Seg.step rfl rfl (Yd.lss rfl rfl) ?_
        refine Seg.nil ?_
        refine At.then_ ?_
        refine Cd.condk rfl (fun h32 => ?_) (fun h32 => ?_)
        · refine Cd.skip ?_
          refine At.then_ ?_
          refine Cd.seq ?_
          refine Cd.block ?_
          refine Cd.seq ?_
          refine Cd.region ?_
          refine Seg.step rfl rfl (Yd.move rfl) ?_
          refine Seg.step rfl rfl (Yd.move rfl) ?_
          refine Seg.step rfl rfl (Yd.indexAddr rfl rfl rfl (NatOf.cast _) (by omega)) ?_
          refine Seg.step rfl rfl (Yd.fieldAddr rfl rfl) ?_
          refine Seg.step rfl rfl (Yd.load1 rfl rfl (hrow _ _ rfl)) ?_
          refine Seg.step rfl rfl (Yd.lenS rfl rfl) ?_
          refine Seg.step rfl rfl (Yd.gtr rfl rfl) ?_
          refine Seg.nil ?_
          refine At.then_ ?_
          refine Cd.condk rfl (fun h49 => ?_) (fun h49 => ?_)
          · refine Cd.seq ?_
            refine Cd.region ?_
            (refine Seg.call rfl rfl (own_of rfl) rfl (works20 _) ?_; rintro _ w53 ⟨rfl, hE53⟩)
            replace hO := hO.ext hE53
            replace hB := hB.ext hE53
            replace hE0 := Ext.trans hE0 hE53
            replace hrow := hrow.ext hE53
            replace hS := hS.ext hE53
            refine Seg.step rfl rfl (Yd.assign rfl) ?_
            refine Seg.nil ?_
            refine At.then_ ?_
            refine Cd.ret ?_
            refine At.blk_ret ?_
            refine At.then_ret ?_
            refine At.then_ret ?_
            refine At.blk_ret ?_
            refine At.then_ret ?_
            exact At.ret Try.results5 (.tmp rfl .nil) ⟨rfl, by assumption⟩
          · refine Cd.skip ?_
            refine At.blk ?_
            refine At.then_ ?_
            refine Cd.region ?_
            refine Seg.step rfl rfl (Yd.move rfl) ?_
            refine Seg.step rfl rfl (Yd.addI rfl rfl (by omega)) ?_
            refine Seg.step rfl rfl (Yd.assign rfl) ?_
            refine Seg.nil ?_
            exact At.round (i + 1) (.cons rfl (.cons rfl (.cons rfl (.cons rfl (.cons rfl (.nil _)))))) ⟨hlt, hT' (by omega), hO, hS, hB, hE0⟩ (Nat.sub_lt_sub_left hlt (Nat.lt_succ_self i))
        · exfalso; omega
      · have hil : X.take i = X := List.take_of_length_le (by omega)
        rw [hil] at hT
        have hA : SvAt w0 (.slice ao X.length c) X := ⟨hS, fun x hx => ⟨(hO x hx).1, hT x hx⟩⟩
        refine Cd.seq ?_
        refine Cd.seq ?_
        refine Cd.region ?_
        refine Seg.step rfl rfl (Yd.move rfl) ?_
        refine Seg.step rfl rfl (Yd.move rfl) ?_
        refine Seg.step rfl rfl (Yd.lenS rfl rfl) ?_
        refine Seg.step rfl rfl (Yd.lss rfl rfl) ?_
        refine Seg.nil ?_
        refine At.then_ ?_
        refine Cd.condk rfl (fun h32 => ?_) (fun h32 => ?_)
        · exfalso; omega
        · refine Cd.exit ?_
          refine At.then_exit ?_
          refine At.then_exit ?_
          refine At.blk_same ?_
          refine At.then_ ?_
          refine Cd.seq ?_
          refine Cd.region ?_
          refine Seg.step rfl rfl (Yd.move rfl) ?_
          refine Seg.step rfl rfl (Yd.move rfl) ?_
          refine Seg.step rfl rfl (Yd.indexArr1 rfl rfl rfl (NatOf.cast 1) (by omega)) ?_
          refine Seg.step rfl rfl (Yd.load1 rfl rfl (hB.row _ _ rfl)) ?_
          (refine Seg.call rfl rfl (own_of rfl) rfl (find_any X n x1 _ _ hA (by omega)) ?_; rintro _ w45 ⟨rfl, hE45⟩)
          replace hO := hO.ext hE45
          replace hS := hS.ext hE45
          replace hB := hB.ext hE45
          replace hE0 := Ext.trans hE0 hE45
          replace hA := hA.ext hE45
          refine Seg.step rfl rfl (Yd.move rfl) ?_
          refine Seg.step rfl rfl (Yd.extract rfl rfl) ?_
          refine Seg.step rfl rfl (Yd.extract rfl rfl) ?_
          refine Seg.step rfl rfl (Yd.assign rfl) ?_
          refine Seg.step rfl rfl (Yd.assign rfl) ?_
          refine Seg.nil ?_
          refine At.then_ ?_
          refine Cd.seq ?_
          refine Cd.region ?_
          refine Seg.step rfl rfl (Yd.move rfl) ?_
          refine Seg.step rfl rfl (Yd.move rfl) ?_
          refine Seg.step rfl rfl (Yd.indexArr1 rfl rfl rfl (NatOf.cast 1) (by omega)) ?_
          refine Seg.step rfl rfl (Yd.load1 rfl rfl (hB.row _ _ rfl)) ?_
          (refine Seg.call rfl rfl (own_of rfl) rfl (rfind_any X n x1 _ _ hA (by omega)) ?_; rintro _ w59 ⟨rfl, hE59⟩)
          replace hE45 := Ext.trans hE45 hE59
          replace hO := hO.ext hE59
          replace hS := hS.ext hE59
          replace hB := hB.ext hE59
          replace hE0 := Ext.trans hE0 hE59
          replace hA := hA.ext hE59
          refine Seg.step rfl rfl (Yd.move rfl) ?_
          refine Seg.step rfl rfl (Yd.extract rfl rfl) ?_
          refine Seg.step rfl rfl (Yd.extract rfl rfl) ?_
          refine Seg.step rfl rfl (Yd.assign rfl) ?_
          refine Seg.step rfl rfl (Yd.assign rfl) ?_
          refine Seg.nil ?_
          refine At.then_ ?_
          refine Cd.seq ?_
          refine Cd.region ?_
          refine Seg.step rfl rfl (Yd.move rfl) ?_
          refine Seg.step rfl rfl (Yd.indexArr1 rfl rfl rfl (NatOf.cast 0) (by omega)) ?_
          refine Seg.step rfl rfl (Yd.load1 rfl rfl (hB.row _ _ rfl)) ?_
          refine Seg.step rfl rfl (Yd.indexArr1 rfl rfl rfl (NatOf.cast 1) (by omega)) ?_
          refine Seg.step rfl rfl (Yd.load1 rfl rfl (hB.row _ _ rfl)) ?_
          (refine Seg.call rfl rfl (own_of rfl) rfl (name_any X x0 x1 _ _ hA (by omega)) ?_; rintro _ w74 ⟨rfl, hE74⟩)
          replace hE59 := Ext.trans hE59 hE74
          replace hE45 := Ext.trans hE45 hE74
          replace hO := hO.ext hE74
          replace hS := hS.ext hE74
          replace hB := hB.ext hE74
          replace hE0 := Ext.trans hE0 hE74
          replace hA := hA.ext hE74
          refine Seg.step rfl rfl (Yd.move rfl) ?_
          refine Seg.step rfl rfl (Yd.extract rfl rfl) ?_
          refine Seg.step rfl rfl (Yd.extract rfl rfl) ?_
          refine Seg.step rfl rfl (Yd.assign rfl) ?_
          refine Seg.step rfl rfl (Yd.assign rfl) ?_
          refine Seg.nil ?_
          refine At.then_ ?_
          refine Cd.seq ?_
          refine Cd.region ?_
          refine Seg.step rfl rfl (Yd.move rfl) ?_
          refine Seg.step rfl rfl (Yd.indexArr1 rfl rfl rfl (NatOf.cast 0) (by omega)) ?_
          refine Seg.step rfl rfl (Yd.load1 rfl rfl (hB.row _ _ rfl)) ?_
          refine Seg.step rfl rfl (Yd.indexArr1 rfl rfl rfl (NatOf.cast 1) (by omega)) ?_
          refine Seg.step rfl rfl (Yd.load1 rfl rfl (hB.row _ _ rfl)) ?_
          (refine Seg.call rfl rfl (own_of rfl) rfl (rname_any X x0 x1 _ _ hA (by omega)) ?_; rintro _ w89 ⟨rfl, hE89⟩)
          replace hE74 := Ext.trans hE74 hE89
          replace hE59 := Ext.trans hE59 hE89
          replace hE45 := Ext.trans hE45 hE89
          replace hO := hO.ext hE89
          replace hS := hS.ext hE89
          replace hB := hB.ext hE89
          replace hE0 := Ext.trans hE0 hE89
          replace hA := hA.ext hE89
          refine Seg.step rfl rfl (Yd.move rfl) ?_
          refine Seg.step rfl rfl (Yd.extract rfl rfl) ?_
          refine Seg.step rfl rfl (Yd.extract rfl rfl) ?_
          refine Seg.step rfl rfl (Yd.assign rfl) ?_
          refine Seg.step rfl rfl (Yd.assign rfl) ?_
          refine Seg.nil ?_
          refine At.then_ ?_
          refine Cd.seq ?_
          refine Cd.region ?_
          (refine Seg.call rfl rfl (own_of rfl) rfl (works20 _) ?_; rintro _ w99 ⟨rfl, hE99⟩)
          replace hE89 := Ext.trans hE89 hE99
          replace hE74 := Ext.trans hE74 hE99
          replace hE59 := Ext.trans hE59 hE99
          replace hE45 := Ext.trans hE45 hE99
          replace hO := hO.ext hE99
          replace hS := hS.ext hE99
          replace hB := hB.ext hE99
          replace hE0 := Ext.trans hE0 hE99
          replace hA := hA.ext hE99
          refine Seg.step rfl rfl (Yd.move rfl) ?_
          refine Seg.step rfl rfl (Yd.move rfl) ?_
          refine Seg.step rfl rfl (Yd.move rfl) ?_
          refine Seg.step rfl rfl (Yd.eql rfl rfl) ?_
          refine Seg.step rfl rfl (Yd.pickT rfl rfl) ?_
          refine Seg.step rfl rfl (Yd.move rfl) ?_
          refine Seg.gsplitp rfl rfl (fun h106 => ?_) (fun h106 => ?_)
          · refine Seg.step rfl rfl (Yd.move rfl) ?_
            refine Seg.step rfl rfl (Yd.move rfl) ?_
            refine Seg.step rfl rfl (Yd.eqlB rfl rfl rfl) ?_
            refine Seg.step rfl rfl (Yd.pickT rfl rfl) ?_
            refine Seg.step rfl rfl (Yd.move rfl) ?_
            refine Seg.gsplitp rfl rfl (fun h113 => ?_) (fun h113 => ?_)
            · refine Seg.step rfl rfl (Yd.move rfl) ?_
              refine Seg.step rfl rfl (Yd.move rfl) ?_
              refine Seg.step rfl rfl (Yd.eqlS rfl rfl) ?_
              refine Seg.step rfl rfl (Yd.pickT rfl rfl) ?_
              refine Seg.step rfl rfl (Yd.move rfl) ?_
              refine Seg.gsplitp rfl rfl (fun h120 => ?_) (fun h120 => ?_)
              · refine Seg.step rfl rfl (Yd.move rfl) ?_
                refine Seg.step rfl rfl (Yd.move rfl) ?_
                refine Seg.step rfl rfl (Yd.eqlB rfl rfl rfl) ?_
                refine Seg.step rfl rfl (Yd.pickT rfl rfl) ?_
                refine Seg.step rfl rfl (Yd.assign rfl) ?_
                refine Seg.nil ?_
                refine At.then_ ?_
                refine Cd.ret ?_
                exact At.ret Try.results5 (.tmp rfl .nil) ⟨by rw [beq_self_eq_true]; rfl, by assumption⟩
              · contradiction
            · contradiction
          · exfalso; omega
    · refine Cd.seq ?_
      refine Cd.region ?_
      refine Seg.box rfl rfl rfl (fun w3 b3 hE3 hB3 hb3 => ?_)
      have hlt3_0 := Nat.le_trans hE0.size hb3
      replace hE0 := Ext.trans hE0 hE3
      replace hO := hO.ext hE3
      replace hS := hS.ext hE3
      refine Seg.step rfl rfl (Yd.assign rfl) ?_
      refine Seg.nil ?_
      refine At.then_ ?_
      refine Cd.seq ?_
      refine Cd.seq ?_
      refine Cd.region ?_
      refine Seg.step rfl rfl (Yd.move rfl) ?_
      refine Seg.step rfl rfl (Yd.lenS rfl rfl) ?_
      refine Seg.step rfl rfl (Yd.gtr rfl rfl) ?_
      refine Seg.step rfl rfl (Yd.move rfl) ?_
      refine Seg.gsplitp rfl rfl (fun h14 => ?_) (fun h14 => ?_)
      · exfalso; omega
      · refine Seg.step rfl rfl (Yd.move rfl) ?_
        refine Seg.step rfl rfl (Yd.lenStr rfl rfl) ?_
        refine Seg.step rfl rfl (Yd.gtr rfl rfl) ?_
        refine Seg.step rfl rfl (Yd.pickF rfl rfl) ?_
        refine Seg.nil ?_
        refine At.then_ ?_
        refine Cd.condk rfl (fun h22 => ?_) (fun h22 => ?_)
        · refine Cd.seq ?_
          refine Cd.region ?_
          (refine Seg.call rfl rfl (own_of rfl) rfl (works20 _) ?_; rintro _ w26 ⟨rfl, hE26⟩)
          replace hE3 := Ext.trans hE3 hE26
          replace hB3 := hB3.ext hE26
          replace hE0 := Ext.trans hE0 hE26
          replace hO := hO.ext hE26
          replace hS := hS.ext hE26
          refine Seg.step rfl rfl (Yd.assign rfl) ?_
          refine Seg.nil ?_
          refine At.then_ ?_
          refine Cd.ret ?_
          refine At.then_ret ?_
          exact At.ret Try.results5 (.tmp rfl .nil) ⟨rfl, by assumption⟩
        · exfalso; omega
  · refine Cd.seq ?_
    refine Cd.region ?_
    refine Seg.box rfl rfl rfl (fun w3 b3 hE3 hB3 hb3 => ?_)
    have hlt3_0 := Nat.le_trans hE0.size hb3
    replace hE0 := Ext.trans hE0 hE3
    replace hO := hO.ext hE3
    replace hS := hS.ext hE3
    refine Seg.step rfl rfl (Yd.assign rfl) ?_
    refine Seg.nil ?_
    refine At.then_ ?_
    refine Cd.seq ?_
    refine Cd.seq ?_
    refine Cd.region ?_
    refine Seg.step rfl rfl (Yd.move rfl) ?_
    refine Seg.step rfl rfl (Yd.lenS rfl rfl) ?_
    refine Seg.step rfl rfl (Yd.gtr rfl rfl) ?_
    refine Seg.step rfl rfl (Yd.move rfl) ?_
    refine Seg.gsplitp rfl rfl (fun h14 => ?_) (fun h14 => ?_)
    · refine Seg.skip rfl rfl ?_
      refine Seg.skip rfl rfl ?_
      refine Seg.skip rfl rfl ?_
      refine Seg.step rfl rfl (Yd.pickT rfl rfl) ?_
      refine Seg.nil ?_
      refine At.then_ ?_
      refine Cd.condT rfl ?_
      refine Cd.seq ?_
      refine Cd.region ?_
      (refine Seg.call rfl rfl (own_of rfl) rfl (works20 _) ?_; rintro _ w25 ⟨rfl, hE25⟩)
      replace hE3 := Ext.trans hE3 hE25
      replace hB3 := hB3.ext hE25
      replace hE0 := Ext.trans hE0 hE25
      replace hO := hO.ext hE25
      replace hS := hS.ext hE25
      refine Seg.step rfl rfl (Yd.assign rfl) ?_
      refine Seg.nil ?_
      refine At.then_ ?_
      refine Cd.ret ?_
      refine At.then_ret ?_
      exact At.ret Try.results5 (.tmp rfl .nil) ⟨rfl, by assumption⟩
    · exfalso; omega
end Go.Proofs.Ytbmgigbedmgfpaa
