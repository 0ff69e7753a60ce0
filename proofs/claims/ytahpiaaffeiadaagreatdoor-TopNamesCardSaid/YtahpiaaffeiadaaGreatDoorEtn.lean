/- A name as people write it stays itself: wayfindertop.TopNames. -/
import Derived.Test.YtahpiaaffeiadaaGreatDoorEwd
namespace Go.Proofs.YtahpiaaffeiadaaGreatDoor
open Go Go.RowKit
def hd0 : Hd := ⟨0, false, 0, false, false, false, false, false, false, 0⟩
theorem hd0_ok : HdOk hd0 := ⟨⟨by decide, by decide⟩, ⟨by decide, by decide⟩, by decide, by decide⟩
theorem host_err {s : List UInt8} (h : (hostR s).2 ≠ 0) : (hostR s).1 = [] := by
  unfold hostR at h ⊢
  cases hR : runesB s with
  | none => rfl
  | some ps =>
    rw [hR] at h
    simp only at h ⊢
    split
    · rfl
    · split
      · rfl
      · rename_i h1 h2
        rw [if_neg h1, if_neg h2] at h
        exact absurd rfl h
theorem good_lab {n : List (List UInt8)} (h : goodN n) : labN n := fun l hl => ⟨(h l hl).1.1, (h l hl).1.2.1⟩
theorem good_plain {n : List (List UInt8)} (h : goodN n) : plainN n := fun l hl => (h l hl).1.2.2.2.2
theorem good_host {n : List (List UInt8)} (h : goodN n) : hostN n := fun l hl => (h l hl).1
theorem good_nodot {n : List (List UInt8)} (h : goodN n) : nodotN n := fun l hl h46 => by
  have := good_plain h l hl 46 h46
  unfold plainI at this
  have e : ((46 : UInt8).toNat : Int) = 46 := rfl
  omega
/-- A question twice, written. -/
theorem enc2_any (n : List (List UInt8)) (u vq : Value) (kind : Nat) (w : World) (hl : labN n) (hz : szN n ≤ 255) (hk : kind < 65536) (hN : NameAt w u n) (hS : Sl w 3 vq 2 [u, .int .i64 (kind : Int), .int .i64 1, u, .int .i64 (kind : Int), .int .i64 1]) :
    Ret Tryz.prog 8 #[.agg (mesV hd0 vq).toArray, .bool true] w fun v w' => (∃ S : List UInt8, v = .tuple #[.string ⟨S.toArray⟩, .int .i64 0] ∧ (12 ≤ S.length ∧ S.length ≤ 612) ∧ cntV S 4 = [.int .i64 ((2 : Nat) : Int), .int .i64 0, .int .i64 0, .int .i64 0] ∧ QsRd S 12 [⟨n, kind, 1⟩, ⟨n, kind, 1⟩] S.length) ∧ Ext w w' := by
  obtain ⟨qs, hqe⟩ : ∃ qs : List Qn, qs = [⟨n, u, kind, 1⟩, ⟨n, u, kind, 1⟩] := ⟨_, rfl⟩
  have hmem : ∀ q ∈ qs, q = ⟨n, u, kind, 1⟩ := fun q hq => by
    rw [hqe] at hq
    simpa using hq
  have hqs : ∀ q ∈ qs, QnOk q := fun q hq => by
    rw [hmem q hq]
    exact ⟨hl, hz, hk, show 1 < 65536 by decide⟩
  have hl2 : qs.length = 2 := by rw [hqe]; rfl
  have hQs : QsAt w vq qs := by
    refine ⟨?_, fun q hq => by rw [hmem q hq]; exact hN⟩
    rw [hqe]; exact hS
  have hen := mencode_any hd0 vq qs w hd0_ok hQs (by omega) hqs
  have hrd := (encT_rd hd0 qs hqs qs.length (Nat.le_refl _)).1
  have hsl := encT_len hd0 qs qs.length (Nat.le_refl _) hqs
  obtain ⟨Y, hY⟩ := encT_head hd0 qs qs.length (Nat.le_refl _)
  have hcn : cntV (encT hd0 qs qs.length).1 4 = [.int .i64 ((2 : Nat) : Int), .int .i64 0, .int .i64 0, .int .i64 0] := by
    rw [hY, cnt_hdB rfl (by intro x hx; simp at hx; omega) Y, hl2]; rfl
  rw [List.take_length, show qs.map toDQ = [⟨n, kind, 1⟩, ⟨n, kind, 1⟩] by rw [hqe]; rfl] at hrd
  exact hen.mono fun v w' ⟨hv, hE⟩ => ⟨⟨_, hv, ⟨hsl.1, by omega⟩, hcn, hrd⟩, hE⟩
/-- It is read once more. -/
theorem dec2_any (S : List UInt8) (n : List (List UInt8)) (kind : Nat) (w : World) (hsl : 12 ≤ S.length ∧ S.length ≤ 612) (hcn : cntV S 4 = [.int .i64 ((2 : Nat) : Int), .int .i64 0, .int .i64 0, .int .i64 0]) (hrd : QsRd S 12 [⟨n, kind, 1⟩, ⟨n, kind, 1⟩] S.length) :
    Ret Tryz.prog 9 #[.string ⟨S.toArray⟩] w fun v w' => (∃ (h : Hd) (a : Addr) (qc : Nat) (u0 : Value) (ub : Option Addr) (uc : Nat), v = .tuple #[.agg (h.cells ++ [Value.slice (some a) 2 qc, Value.slice none 0 0, Value.slice none 0 0, Value.slice none 0 0]).toArray, .int .i64 0] ∧
      Row w' a [u0, .int .i64 (kind : Int), .int .i64 1, .slice ub n.length uc, .int .i64 (kind : Int), .int .i64 1] ∧ NameAt w' (.slice ub n.length uc) n) ∧ Ext w w' := by
  refine (mdecode_any S [⟨n, kind, 1⟩, ⟨n, kind, 1⟩] w (by omega) hsl.1 (show 2 ≤ 65535 by decide) hcn hrd).mono fun v w' ⟨⟨us, qv, hv, hq, hu⟩, hE⟩ => ⟨?_, hE⟩
  obtain ⟨qa, qc, rfl, _, hr, hz⟩ := hq
  obtain ⟨a, rfl⟩ := opt_some hz (show 0 < 2 by decide)
  obtain ⟨hul, hum⟩ := hu
  obtain ⟨u0, u1, rfl⟩ : ∃ u0 u1, us = [u0, u1] := by
    rcases us with _ | ⟨u0, _ | ⟨u1, _ | ⟨u2, r⟩⟩⟩
    · simp at hul
    · simp at hul
    · exact ⟨u0, u1, rfl⟩
    · simp at hul
  have hN := own_sl (hum 1 u1 ⟨n, kind, 1⟩ rfl rfl)
  obtain ⟨ub, uc, rfl, hN2⟩ := hN
  exact ⟨hdOf S, a, qc, u0, ub, uc, hv, hr a rfl, ub, uc, rfl, hN2⟩
theorem ihost_ok {s a : List UInt8} (w : World) (hl : s.length ≤ 900) (h : hostR s = (a, 0)) : Ret Tryz.prog 5 #[.string ⟨s.toArray⟩] w fun v w' => v = .tuple #[.string ⟨a.toArray⟩, .int .i64 0] ∧ Ext w w' := by
  have := ihost_any s w hl
  rw [h] at this
  exact this
theorem spl_read {n us : List (List UInt8)} {d : Bool} (h0 : n ≠ []) (hg : goodN n) (h : readN (pcs n d) us) : splB (txtN us false) = us := by
  obtain ⟨vs, rfl, hv⟩ := readN_pcs n d us hg h
  have hlen := readsAs_len n vs hv
  have hus : vs ≠ [] := fun e => by rw [e] at hlen; exact h0 (List.eq_nil_of_length_eq_zero hlen.symm)
  refine splF_txt _ _ (by unfold pcs; simp [hus]) (fun u hu => ?_) (Nat.le_refl _)
  unfold pcs at hu
  rcases List.mem_append.1 hu with h1 | h1
  · exact (readsAs_mem n vs hv u h1).1
  · cases d
    · cases h1
    · rw [if_pos rfl, List.mem_singleton] at h1; rw [h1]; exact runesOk_nil
theorem ihost_read {n us : List (List UInt8)} {d : Bool} (w : World) (h0 : n ≠ []) (hg : goodN n) (hz : szN n ≤ 255) (h : readN (pcs n d) us) : Ret Tryz.prog 5 #[.string ⟨(txtN us false).toArray⟩] w fun v w' => v = .tuple #[.string ⟨(txtN n d).toArray⟩, .int .i64 0] ∧ Ext w w' := by
  have h400 := readN_mem (pcs n d) us h (fun t ht => by
    unfold pcs at ht
    rcases List.mem_append.1 ht with h1 | h1
    · exact (good_lab hg t h1).2
    · cases d
      · cases h1
      · rw [if_pos rfl, List.mem_singleton] at h1; rw [h1]; exact Nat.zero_le _)
  have h1 := szN_bd2 h400
  have h2 := readN_len (pcs n d) us h
  have h3 : (pcs n d).length ≤ n.length + 1 := by unfold pcs; cases d <;> simp
  have h4 := szN_len n
  have h5 := txt_len us false
  have := ihost_gen (txtN us false) w (by omega) (fun t ht => by rw [spl_read h0 hg h] at ht; have := h400 t ht; omega)
  rw [host_read h0 hg hz h] at this
  exact this
theorem topn_any (s : List UInt8) (kind : Nat) (w : World) (hk : kind < 65536) : Ret Tryz.prog 3 #[.string ⟨s.toArray⟩, .int .u16 (kind : Int)] w fun v w' => v = .bool true ∧ Ext w w' := by
  have hE0 := Ext.refl w
  refine Ret.body Tryz.func3 rfl Tryz.ntmps3 rfl ?_
  by_cases hl : (600 : Int) < (s.length : Int)
  · refine Cd.seq ?_
    refine Cd.region ?_
    refine Seg.step rfl rfl (Yd.assign rfl) ?_
    refine Seg.nil ?_
    refine At.then_ ?_
    refine Cd.seq ?_
    refine Cd.seq ?_
    refine Cd.region ?_
    (refine Seg.call rfl rfl (own_of rfl) rfl (wired_any _) ?_; rintro _ w9 ⟨rfl, hE9⟩)
    replace hE0 := Ext.trans hE0 hE9
    refine Seg.step rfl rfl (Yd.not rfl) ?_
    refine Seg.step rfl rfl (Yd.move rfl) ?_
    refine Seg.step rfl rfl (Yd.move rfl) ?_
    refine Seg.step rfl rfl (Yd.lenStr rfl rfl) ?_
    refine Seg.step rfl rfl (Yd.gtr rfl rfl) ?_
    refine Seg.step rfl rfl (Yd.pickF rfl rfl) ?_
    refine Seg.nil ?_
    refine At.then_ ?_
    refine Cd.condk rfl (fun h18 => ?_) (fun h18 => ?_)
    · refine Cd.seq ?_
      refine Cd.region ?_
      (refine Seg.call rfl rfl (own_of rfl) rfl (wired_any _) ?_; rintro _ w22 ⟨rfl, hE22⟩)
      replace hE9 := Ext.trans hE9 hE22
      replace hE0 := Ext.trans hE0 hE22
      refine Seg.step rfl rfl (Yd.assign rfl) ?_
      refine Seg.nil ?_
      refine At.then_ ?_
      refine Cd.ret ?_
      refine At.then_ret ?_
      exact At.ret Tryz.results3 (.tmp rfl .nil) ⟨rfl, hE0⟩
    · exfalso; omega
  · by_cases he : (hostR s).2 = 0
    · obtain ⟨a, ha⟩ : ∃ a, (hostR s).1 = a := ⟨_, rfl⟩
      have hR : hostR s = (a, 0) := by rw [← ha, ← he]
      obtain ⟨n, d, rfl, h0, hg, hz⟩ := host_said hR
      have htl := txt_len n d
      have hkw : IntKind.i64.wrap (kind : Int) = (kind : Int) := IntWalk.i64_in _ ⟨by omega, by omega⟩
      refine Cd.seq ?_
      refine Cd.region ?_
      refine Seg.step rfl rfl (Yd.assign rfl) ?_
      refine Seg.nil ?_
      refine At.then_ ?_
      refine Cd.seq ?_
      refine Cd.seq ?_
      refine Cd.region ?_
      (refine Seg.call rfl rfl (own_of rfl) rfl (wired_any _) ?_; rintro _ w9 ⟨rfl, hE9⟩)
      replace hE0 := Ext.trans hE0 hE9
      refine Seg.step rfl rfl (Yd.not rfl) ?_
      refine Seg.step rfl rfl (Yd.move rfl) ?_
      refine Seg.step rfl rfl (Yd.move rfl) ?_
      refine Seg.step rfl rfl (Yd.lenStr rfl rfl) ?_
      refine Seg.step rfl rfl (Yd.gtr rfl rfl) ?_
      refine Seg.step rfl rfl (Yd.pickF rfl rfl) ?_
      refine Seg.nil ?_
      refine At.then_ ?_
      refine Cd.condk rfl (fun h18 => ?_) (fun h18 => ?_)
      · exfalso; omega
      refine Cd.skip ?_
      refine At.then_ ?_
      refine Cd.seq ?_
      refine Cd.region ?_
      refine Seg.step rfl rfl (Yd.move rfl) ?_
      (refine Seg.call rfl rfl (own_of rfl) rfl (ihost_ok _ (by omega) hR) ?_; rintro _ w25 ⟨rfl, hE25⟩)
      replace hE9 := Ext.trans hE9 hE25
      replace hE0 := Ext.trans hE0 hE25
      refine Seg.step rfl rfl (Yd.move rfl) ?_
      refine Seg.step rfl rfl (Yd.extract rfl rfl) ?_
      refine Seg.step rfl rfl (Yd.extract rfl rfl) ?_
      refine Seg.step rfl rfl (Yd.assign rfl) ?_
      refine Seg.step rfl rfl (Yd.assign rfl) ?_
      refine Seg.nil ?_
      refine At.then_ ?_
      refine Cd.seq ?_
      refine Cd.seq ?_
      refine Cd.region ?_
      refine Seg.step rfl rfl (Yd.move rfl) ?_
      refine Seg.step rfl rfl (Yd.neq rfl rfl) ?_
      refine Seg.nil ?_
      refine At.then_ ?_
      refine Cd.condF rfl ?_
      refine Cd.skip ?_
      refine At.then_ ?_
      refine Cd.seq ?_
      refine Cd.region ?_
      refine Seg.step rfl rfl (Yd.move rfl) ?_
      (refine Seg.call rfl rfl (own_of rfl) rfl (dparse_any n d _ (good_plain hg) h0 (good_lab hg) hz) ?_; rintro _ w46 ⟨⟨u, rfl, hN46, _⟩, hE46⟩; obtain ⟨ua, uc, rfl, hN246⟩ := hN46; have kN : Keep (NameAt w46 (.slice ua n.length uc) n) := ⟨ua, uc, rfl, hN246⟩; clear hN246; have hEn := Ext.refl w46)
      replace hE25 := Ext.trans hE25 hE46
      replace hE9 := Ext.trans hE9 hE46
      replace hE0 := Ext.trans hE0 hE46
      refine Seg.step rfl rfl (Yd.move rfl) ?_
      refine Seg.step rfl rfl (Yd.extract rfl rfl) ?_
      refine Seg.step rfl rfl (Yd.extract rfl rfl) ?_
      refine Seg.step rfl rfl (Yd.extract rfl rfl) ?_
      refine Seg.step rfl rfl (Yd.assign rfl) ?_
      refine Seg.step rfl rfl (Yd.assign rfl) ?_
      refine Seg.step rfl rfl (Yd.assign rfl) ?_
      refine Seg.nil ?_
      refine At.then_ ?_
      refine Cd.seq ?_
      refine Cd.seq ?_
      refine Cd.region ?_
      refine Seg.step rfl rfl (Yd.move rfl) ?_
      refine Seg.step rfl rfl (Yd.neq rfl rfl) ?_
      refine Seg.step rfl rfl (Yd.move rfl) ?_
      refine Seg.step rfl rfl (Yd.move rfl) ?_
      (refine Seg.call rfl rfl (own_of rfl) rfl (rhosts_any n _ _ (Sl.ext kN hEn) h0 (good_host hg) hz) ?_; rintro _ w63 ⟨rfl, hE63⟩)
      replace hE46 := Ext.trans hE46 hE63
      replace hEn := Ext.trans hEn hE63
      replace hE25 := Ext.trans hE25 hE63
      replace hE9 := Ext.trans hE9 hE63
      replace hE0 := Ext.trans hE0 hE63
      refine Seg.step rfl rfl (Yd.not rfl) ?_
      refine Seg.step rfl rfl (Yd.pickF rfl rfl) ?_
      refine Seg.nil ?_
      refine At.then_ ?_
      refine Cd.condF rfl ?_
      refine Cd.skip ?_
      refine At.then_ ?_
      refine Cd.seq ?_
      refine Cd.region ?_
      refine Seg.step rfl rfl (Yd.move rfl) ?_
      refine Seg.step rfl rfl (Yd.move rfl) ?_
      (refine Seg.step rfl rfl (Yd.convI rfl rfl rfl) ?_; rw [hkw])
      refine Seg.step rfl rfl (Yd.buildT (cs := _ :: _ :: _ :: []) 3 rfl rfl rfl rfl rfl) ?_
      refine Seg.alloc rfl rfl rfl (fun w77 b77 hE77 hB77 hb77 => ?_)
      have hlt77_0 := Nat.le_trans hE63.size hb77
      have hlt77_1 := Nat.le_trans hE46.size hb77
      have hlt77_2 := Nat.le_trans hEn.size hb77
      have hlt77_3 := Nat.le_trans hE25.size hb77
      have hlt77_4 := Nat.le_trans hE9.size hb77
      have hlt77_5 := Nat.le_trans hE0.size hb77
      replace hE63 := Ext.trans hE63 hE77
      replace hE46 := Ext.trans hE46 hE77
      replace hEn := Ext.trans hEn hE77
      replace hE25 := Ext.trans hE25 hE77
      replace hE9 := Ext.trans hE9 hE77
      replace hE0 := Ext.trans hE0 hE77
      refine Seg.storeN rfl rfl rfl rfl hB77 rfl (by first | assumption | exact List.all_eq_true.1 rfl) (fun w78 hW78 hB78 => ?_)
      clear hB77
      replace hE77 := Ext.wr' hE77 hW78 (by omega)
      replace hE63 := Ext.wr' hE63 hW78 (by omega)
      replace hE46 := Ext.wr' hE46 hW78 (by omega)
      replace hEn := Ext.wr' hEn hW78 (by omega)
      replace hE25 := Ext.wr' hE25 hW78 (by omega)
      replace hE9 := Ext.wr' hE9 hW78 (by omega)
      replace hE0 := Ext.wr' hE0 hW78 (by omega)
      refine Seg.nil ?_
      refine At.then_ ?_
      refine Cd.seq ?_
      refine Cd.region ?_
      refine Seg.step rfl rfl (Yd.loadN rfl rfl rfl hB78.row) ?_
      refine Seg.step rfl rfl (Yd.loadN rfl rfl rfl hB78.row) ?_
      refine Seg.buildSliceV rfl rfl rfl rfl rfl rfl rfl rfl rfl rfl (fun w85 b85 hE85 hB85 hb85 hO85 => ?_)
      have hlt85_0 := Nat.lt_of_lt_of_le hB78.lt hb85
      have hlt85_1 := Nat.le_trans hE77.size hb85
      have hlt85_2 := Nat.le_trans hE63.size hb85
      have hlt85_3 := Nat.le_trans hE46.size hb85
      have hlt85_4 := Nat.le_trans hEn.size hb85
      have hlt85_5 := Nat.le_trans hE25.size hb85
      have hlt85_6 := Nat.le_trans hE9.size hb85
      have hlt85_7 := Nat.le_trans hE0.size hb85
      replace hW78 := Wr.trans hW78 (Ext.wr hE85 _)
      replace hB78 := hB78.ext hE85
      replace hE77 := Ext.trans hE77 hE85
      replace hE63 := Ext.trans hE63 hE85
      replace hE46 := Ext.trans hE46 hE85
      replace hEn := Ext.trans hEn hE85
      replace hE25 := Ext.trans hE25 hE85
      replace hE9 := Ext.trans hE9 hE85
      replace hE0 := Ext.trans hE0 hE85
      refine Seg.step rfl rfl (Yd.buildT (cs := _ :: _ :: _ :: _ :: _ :: _ :: _ :: _ :: _ :: _ :: _ :: _ :: _ :: _ :: []) 14 rfl rfl rfl rfl rfl) ?_
      refine Seg.call rfl rfl (own_of rfl) rfl (enc2_any n (.slice ua n.length uc) _ kind _ (good_lab hg) hz hk (Sl.ext kN hEn) (own_sl hO85)) ?_
      rintro _ w1 ⟨⟨S, rfl, hsl, hcn, hrd⟩, hE1⟩
      have hE2 : Ext w w1 := Ext.trans (by assumption : Ext w w85) hE1
      clear hO85 hEn hE1 hE0
      have hE0 := hE2
      clear hE2
      have hag := host_again (d := d) h0 hg hz
      cases d with
      | false =>
        refine Seg.step rfl rfl (Yd.move rfl) ?_
        refine Seg.step rfl rfl (Yd.extract rfl rfl) ?_
        refine Seg.step rfl rfl (Yd.extract rfl rfl) ?_
        refine Seg.step rfl rfl (Yd.assign rfl) ?_
        refine Seg.step rfl rfl (Yd.assign rfl) ?_
        refine Seg.nil ?_
        refine At.then_ ?_
        refine Cd.seq ?_
        refine Cd.region ?_
        refine Seg.step rfl rfl (Yd.move rfl) ?_
        (refine Seg.call rfl rfl (own_of rfl) rfl (dec2_any S n kind _ hsl hcn hrd) ?_; rintro _ w96 ⟨⟨hh, qa, qc, u0, ub, uc2, rfl, hq96, hu96⟩, hE96⟩; have kQ : Keep (Row w96 qa _) := hq96; have kU : Keep (NameAt w96 _ n) := hu96; clear hq96 hu96; have hEq := Ext.refl w96)
        replace hE0 := Ext.trans hE0 hE96
        refine Seg.step rfl rfl (Yd.move rfl) ?_
        refine Seg.step rfl rfl (Yd.extract rfl rfl) ?_
        refine Seg.step rfl rfl (Yd.extract rfl rfl) ?_
        refine Seg.alloc rfl rfl rfl (fun w100 b100 hE100 hB100 hb100 => ?_)
        have hlt100_0 := Nat.le_trans hE96.size hb100
        have hlt100_1 := Nat.le_trans hEq.size hb100
        have hlt100_2 := Nat.le_trans hE0.size hb100
        replace hE96 := Ext.trans hE96 hE100
        replace hEq := Ext.trans hEq hE100
        replace hE0 := Ext.trans hE0 hE100
        refine Seg.storeN rfl rfl rfl rfl hB100 rfl (by first | assumption | exact List.all_eq_true.1 rfl) (fun w101 hW101 hB101 => ?_)
        clear hB100
        replace hE100 := Ext.wr' hE100 hW101 (by omega)
        replace hE96 := Ext.wr' hE96 hW101 (by omega)
        replace hEq := Ext.wr' hEq hW101 (by omega)
        replace hE0 := Ext.wr' hE0 hW101 (by omega)
        refine Seg.step rfl rfl (Yd.assign rfl) ?_
        refine Seg.nil ?_
        refine At.then_ ?_
        refine Cd.seq ?_
        refine Cd.seq ?_
        refine Cd.region ?_
        refine Seg.step rfl rfl (Yd.move rfl) ?_
        refine Seg.step rfl rfl (Yd.neq rfl rfl) ?_
        refine Seg.step rfl rfl (Yd.move rfl) ?_
        refine Seg.step rfl rfl (Yd.move rfl) ?_
        refine Seg.step rfl rfl (Yd.neq rfl rfl) ?_
        refine Seg.step rfl rfl (Yd.pickF rfl rfl) ?_
        refine Seg.step rfl rfl (Yd.move rfl) ?_
        refine Seg.step rfl rfl (Yd.fieldAddr rfl rfl) ?_
        refine Seg.step rfl rfl (Yd.load1 rfl rfl (hB101.row _ _ rfl)) ?_
        refine Seg.step rfl rfl (Yd.lenS rfl rfl) ?_
        refine Seg.step rfl rfl (Yd.neq rfl rfl) ?_
        refine Seg.step rfl rfl (Yd.pickF rfl rfl) ?_
        refine Seg.nil ?_
        refine At.then_ ?_
        refine Cd.condF rfl ?_
        refine Cd.skip ?_
        refine At.then_ ?_
        refine Cd.seq ?_
        refine Cd.region ?_
        refine Seg.step rfl rfl (Yd.fieldAddr rfl rfl) ?_
        refine Seg.step rfl rfl (Yd.load1 rfl rfl (hB101.row _ _ rfl)) ?_
        refine Seg.step rfl rfl (Yd.indexAddr rfl rfl rfl (NatOf.cast 1) (by omega)) ?_
        refine Seg.step rfl rfl (Yd.fieldAddr' rfl rfl) ?_
        refine Seg.step rfl rfl (Yd.load1 rfl rfl ((Row.ext kQ hEq) _ _ rfl)) ?_
        (refine Seg.call rfl rfl (own_of rfl) rfl (dplain_any n _ _ (Sl.ext kU hEq) (good_plain hg) h0 (by omega)) ?_; rw [← txt_false n h0]; rintro _ w132 ⟨rfl, hE132⟩)
        replace hW101 := Wr.trans hW101 (Ext.wr hE132 _)
        replace hB101 := hB101.ext hE132
        replace hE100 := Ext.trans hE100 hE132
        replace hE96 := Ext.trans hE96 hE132
        replace hEq := Ext.trans hEq hE132
        replace hE0 := Ext.trans hE0 hE132
        refine Seg.step rfl rfl (Yd.assign rfl) ?_
        refine Seg.nil ?_
        refine At.then_ ?_
        refine Cd.seq ?_
        refine Cd.seq ?_
        refine Cd.region ?_
        refine Seg.step rfl rfl (Yd.move rfl) ?_
        refine Seg.nil ?_
        refine At.then_ ?_
        refine Cd.condF rfl ?_
        refine Cd.skip ?_
        refine At.then_ ?_
        refine Cd.seq ?_
        refine Cd.region ?_
        refine Seg.step rfl rfl (Yd.move rfl) ?_
        (refine Seg.call rfl rfl (own_of rfl) rfl (ihost_ok _ (by omega) hag) ?_; rintro _ w148 ⟨rfl, hE148⟩)
        replace hE132 := Ext.trans hE132 hE148
        replace hW101 := Wr.trans hW101 (Ext.wr hE148 _)
        replace hB101 := hB101.ext hE148
        replace hE100 := Ext.trans hE100 hE148
        replace hE96 := Ext.trans hE96 hE148
        replace hEq := Ext.trans hEq hE148
        replace hE0 := Ext.trans hE0 hE148
        refine Seg.step rfl rfl (Yd.move rfl) ?_
        refine Seg.step rfl rfl (Yd.extract rfl rfl) ?_
        refine Seg.step rfl rfl (Yd.extract rfl rfl) ?_
        refine Seg.step rfl rfl (Yd.assign rfl) ?_
        refine Seg.step rfl rfl (Yd.assign rfl) ?_
        refine Seg.nil ?_
        refine At.then_ ?_
        refine Cd.seq ?_
        refine Cd.region ?_
        refine Seg.step rfl rfl (Yd.move rfl) ?_
        (refine Seg.call rfl rfl (own_of rfl) rfl (iunicode_any n false _ (good_nodot hg) h0 (fun t ht => (good_lab hg t ht).2) (by omega)) ?_; rintro _ w159 ⟨⟨us, rfl, hus⟩, hE159⟩)
        replace hE148 := Ext.trans hE148 hE159
        replace hE132 := Ext.trans hE132 hE159
        replace hW101 := Wr.trans hW101 (Ext.wr hE159 _)
        replace hB101 := hB101.ext hE159
        replace hE100 := Ext.trans hE100 hE159
        replace hE96 := Ext.trans hE96 hE159
        replace hEq := Ext.trans hEq hE159
        replace hE0 := Ext.trans hE0 hE159
        (refine Seg.call rfl rfl (own_of rfl) rfl (ihost_read _ h0 hg hz hus) ?_; rintro _ w160 ⟨rfl, hE160⟩)
        replace hE159 := Ext.trans hE159 hE160
        replace hE148 := Ext.trans hE148 hE160
        replace hE132 := Ext.trans hE132 hE160
        replace hW101 := Wr.trans hW101 (Ext.wr hE160 _)
        replace hB101 := hB101.ext hE160
        replace hE100 := Ext.trans hE100 hE160
        replace hE96 := Ext.trans hE96 hE160
        replace hEq := Ext.trans hEq hE160
        replace hE0 := Ext.trans hE0 hE160
        refine Seg.step rfl rfl (Yd.move rfl) ?_
        refine Seg.step rfl rfl (Yd.extract rfl rfl) ?_
        refine Seg.step rfl rfl (Yd.extract rfl rfl) ?_
        refine Seg.step rfl rfl (Yd.assign rfl) ?_
        refine Seg.step rfl rfl (Yd.assign rfl) ?_
        refine Seg.nil ?_
        refine At.then_ ?_
        refine Cd.seq ?_
        refine Cd.region ?_
        refine Seg.step rfl rfl (Yd.move rfl) ?_
        refine Seg.step rfl rfl (Yd.move rfl) ?_
        refine Seg.step rfl rfl (Yd.eqlS rfl rfl) ?_
        refine Seg.step rfl rfl (Yd.move rfl) ?_
        refine Seg.gsplitp rfl rfl (fun h174 => ?_) (fun h174 => ?_)
        · refine Seg.step rfl rfl (Yd.move rfl) ?_
          refine Seg.step rfl rfl (Yd.move rfl) ?_
          refine Seg.step rfl rfl (Yd.eqlS rfl rfl) ?_
          refine Seg.step rfl rfl (Yd.pickT rfl rfl) ?_
          refine Seg.step rfl rfl (Yd.move rfl) ?_
          refine Seg.gsplitp rfl rfl (fun h181 => ?_) (fun h181 => ?_)
          · refine Seg.step rfl rfl (Yd.move rfl) ?_
            refine Seg.step rfl rfl (Yd.eql rfl rfl) ?_
            refine Seg.step rfl rfl (Yd.pickT rfl rfl) ?_
            refine Seg.step rfl rfl (Yd.move rfl) ?_
            refine Seg.step rfl rfl (Yd.move rfl) ?_
            refine Seg.step rfl rfl (Yd.move rfl) ?_
            refine Seg.step rfl rfl (Yd.eqlS rfl rfl) ?_
            refine Seg.step rfl rfl (Yd.pickT rfl rfl) ?_
            refine Seg.step rfl rfl (Yd.move rfl) ?_
            refine Seg.gsplitp rfl rfl (fun h192 => ?_) (fun h192 => ?_)
            · refine Seg.step rfl rfl (Yd.move rfl) ?_
              refine Seg.step rfl rfl (Yd.eql rfl rfl) ?_
              refine Seg.step rfl rfl (Yd.pickT rfl rfl) ?_
              refine Seg.step rfl rfl (Yd.assign rfl) ?_
              refine Seg.nil ?_
              refine At.then_ ?_
              refine Cd.ret ?_
              exact At.ret Tryz.results3 (.tmp rfl .nil) ⟨by simp; rfl, hE0⟩
            · contradiction
          · contradiction
        · contradiction
      | true =>
        refine Seg.step rfl rfl (Yd.move rfl) ?_
        refine Seg.step rfl rfl (Yd.extract rfl rfl) ?_
        refine Seg.step rfl rfl (Yd.extract rfl rfl) ?_
        refine Seg.step rfl rfl (Yd.assign rfl) ?_
        refine Seg.step rfl rfl (Yd.assign rfl) ?_
        refine Seg.nil ?_
        refine At.then_ ?_
        refine Cd.seq ?_
        refine Cd.region ?_
        refine Seg.step rfl rfl (Yd.move rfl) ?_
        (refine Seg.call rfl rfl (own_of rfl) rfl (dec2_any S n kind _ hsl hcn hrd) ?_; rintro _ w96 ⟨⟨hh, qa, qc, u0, ub, uc2, rfl, hq96, hu96⟩, hE96⟩; have kQ : Keep (Row w96 qa _) := hq96; have kU : Keep (NameAt w96 _ n) := hu96; clear hq96 hu96; have hEq := Ext.refl w96)
        replace hE0 := Ext.trans hE0 hE96
        refine Seg.step rfl rfl (Yd.move rfl) ?_
        refine Seg.step rfl rfl (Yd.extract rfl rfl) ?_
        refine Seg.step rfl rfl (Yd.extract rfl rfl) ?_
        refine Seg.alloc rfl rfl rfl (fun w100 b100 hE100 hB100 hb100 => ?_)
        have hlt100_0 := Nat.le_trans hE96.size hb100
        have hlt100_1 := Nat.le_trans hEq.size hb100
        have hlt100_2 := Nat.le_trans hE0.size hb100
        replace hE96 := Ext.trans hE96 hE100
        replace hEq := Ext.trans hEq hE100
        replace hE0 := Ext.trans hE0 hE100
        refine Seg.storeN rfl rfl rfl rfl hB100 rfl (by first | assumption | exact List.all_eq_true.1 rfl) (fun w101 hW101 hB101 => ?_)
        clear hB100
        replace hE100 := Ext.wr' hE100 hW101 (by omega)
        replace hE96 := Ext.wr' hE96 hW101 (by omega)
        replace hEq := Ext.wr' hEq hW101 (by omega)
        replace hE0 := Ext.wr' hE0 hW101 (by omega)
        refine Seg.step rfl rfl (Yd.assign rfl) ?_
        refine Seg.nil ?_
        refine At.then_ ?_
        refine Cd.seq ?_
        refine Cd.seq ?_
        refine Cd.region ?_
        refine Seg.step rfl rfl (Yd.move rfl) ?_
        refine Seg.step rfl rfl (Yd.neq rfl rfl) ?_
        refine Seg.step rfl rfl (Yd.move rfl) ?_
        refine Seg.step rfl rfl (Yd.move rfl) ?_
        refine Seg.step rfl rfl (Yd.neq rfl rfl) ?_
        refine Seg.step rfl rfl (Yd.pickF rfl rfl) ?_
        refine Seg.step rfl rfl (Yd.move rfl) ?_
        refine Seg.step rfl rfl (Yd.fieldAddr rfl rfl) ?_
        refine Seg.step rfl rfl (Yd.load1 rfl rfl (hB101.row _ _ rfl)) ?_
        refine Seg.step rfl rfl (Yd.lenS rfl rfl) ?_
        refine Seg.step rfl rfl (Yd.neq rfl rfl) ?_
        refine Seg.step rfl rfl (Yd.pickF rfl rfl) ?_
        refine Seg.nil ?_
        refine At.then_ ?_
        refine Cd.condF rfl ?_
        refine Cd.skip ?_
        refine At.then_ ?_
        refine Cd.seq ?_
        refine Cd.region ?_
        refine Seg.step rfl rfl (Yd.fieldAddr rfl rfl) ?_
        refine Seg.step rfl rfl (Yd.load1 rfl rfl (hB101.row _ _ rfl)) ?_
        refine Seg.step rfl rfl (Yd.indexAddr rfl rfl rfl (NatOf.cast 1) (by omega)) ?_
        refine Seg.step rfl rfl (Yd.fieldAddr' rfl rfl) ?_
        refine Seg.step rfl rfl (Yd.load1 rfl rfl ((Row.ext kQ hEq) _ _ rfl)) ?_
        (refine Seg.call rfl rfl (own_of rfl) rfl (dplain_any n _ _ (Sl.ext kU hEq) (good_plain hg) h0 (by omega)) ?_; rw [← txt_false n h0]; rintro _ w132 ⟨rfl, hE132⟩)
        replace hW101 := Wr.trans hW101 (Ext.wr hE132 _)
        replace hB101 := hB101.ext hE132
        replace hE100 := Ext.trans hE100 hE132
        replace hE96 := Ext.trans hE96 hE132
        replace hEq := Ext.trans hEq hE132
        replace hE0 := Ext.trans hE0 hE132
        refine Seg.step rfl rfl (Yd.assign rfl) ?_
        refine Seg.nil ?_
        refine At.then_ ?_
        refine Cd.seq ?_
        refine Cd.seq ?_
        refine Cd.region ?_
        refine Seg.step rfl rfl (Yd.move rfl) ?_
        refine Seg.nil ?_
        refine At.then_ ?_
        refine Cd.condT rfl ?_
        refine Cd.region ?_
        refine Seg.step rfl rfl (Yd.fieldAddr rfl rfl) ?_
        refine Seg.step rfl rfl (Yd.load1 rfl rfl (hB101.row _ _ rfl)) ?_
        refine Seg.step rfl rfl (Yd.indexAddr rfl rfl rfl (NatOf.cast 1) (by omega)) ?_
        refine Seg.step rfl rfl (Yd.fieldAddr' rfl rfl) ?_
        refine Seg.step rfl rfl (Yd.load1 rfl rfl ((Row.ext kQ hEq) _ _ rfl)) ?_
        (refine Seg.call rfl rfl (own_of rfl) rfl (dtext_any n _ _ (Sl.ext kU hEq) (good_plain hg) h0 (by omega)) ?_; rw [← txt_true n]; rintro _ w149 ⟨rfl, hE149⟩)
        replace hE132 := Ext.trans hE132 hE149
        replace hW101 := Wr.trans hW101 (Ext.wr hE149 _)
        replace hB101 := hB101.ext hE149
        replace hE100 := Ext.trans hE100 hE149
        replace hE96 := Ext.trans hE96 hE149
        replace hEq := Ext.trans hEq hE149
        replace hE0 := Ext.trans hE0 hE149
        refine Seg.step rfl rfl (Yd.assign rfl) ?_
        refine Seg.nil ?_
        refine At.then_ ?_
        refine Cd.seq ?_
        refine Cd.region ?_
        refine Seg.step rfl rfl (Yd.move rfl) ?_
        (refine Seg.call rfl rfl (own_of rfl) rfl (ihost_ok _ (by omega) hag) ?_; rintro _ w156 ⟨rfl, hE156⟩)
        replace hE149 := Ext.trans hE149 hE156
        replace hE132 := Ext.trans hE132 hE156
        replace hW101 := Wr.trans hW101 (Ext.wr hE156 _)
        replace hB101 := hB101.ext hE156
        replace hE100 := Ext.trans hE100 hE156
        replace hE96 := Ext.trans hE96 hE156
        replace hEq := Ext.trans hEq hE156
        replace hE0 := Ext.trans hE0 hE156
        refine Seg.step rfl rfl (Yd.move rfl) ?_
        refine Seg.step rfl rfl (Yd.extract rfl rfl) ?_
        refine Seg.step rfl rfl (Yd.extract rfl rfl) ?_
        refine Seg.step rfl rfl (Yd.assign rfl) ?_
        refine Seg.step rfl rfl (Yd.assign rfl) ?_
        refine Seg.nil ?_
        refine At.then_ ?_
        refine Cd.seq ?_
        refine Cd.region ?_
        refine Seg.step rfl rfl (Yd.move rfl) ?_
        (refine Seg.call rfl rfl (own_of rfl) rfl (iunicode_any n true _ (good_nodot hg) h0 (fun t ht => (good_lab hg t ht).2) (by omega)) ?_; rintro _ w167 ⟨⟨us, rfl, hus⟩, hE167⟩)
        replace hE156 := Ext.trans hE156 hE167
        replace hE149 := Ext.trans hE149 hE167
        replace hE132 := Ext.trans hE132 hE167
        replace hW101 := Wr.trans hW101 (Ext.wr hE167 _)
        replace hB101 := hB101.ext hE167
        replace hE100 := Ext.trans hE100 hE167
        replace hE96 := Ext.trans hE96 hE167
        replace hEq := Ext.trans hEq hE167
        replace hE0 := Ext.trans hE0 hE167
        (refine Seg.call rfl rfl (own_of rfl) rfl (ihost_read _ h0 hg hz hus) ?_; rintro _ w168 ⟨rfl, hE168⟩)
        replace hE167 := Ext.trans hE167 hE168
        replace hE156 := Ext.trans hE156 hE168
        replace hE149 := Ext.trans hE149 hE168
        replace hE132 := Ext.trans hE132 hE168
        replace hW101 := Wr.trans hW101 (Ext.wr hE168 _)
        replace hB101 := hB101.ext hE168
        replace hE100 := Ext.trans hE100 hE168
        replace hE96 := Ext.trans hE96 hE168
        replace hEq := Ext.trans hEq hE168
        replace hE0 := Ext.trans hE0 hE168
        refine Seg.step rfl rfl (Yd.move rfl) ?_
        refine Seg.step rfl rfl (Yd.extract rfl rfl) ?_
        refine Seg.step rfl rfl (Yd.extract rfl rfl) ?_
        refine Seg.step rfl rfl (Yd.assign rfl) ?_
        refine Seg.step rfl rfl (Yd.assign rfl) ?_
        refine Seg.nil ?_
        refine At.then_ ?_
        refine Cd.seq ?_
        refine Cd.region ?_
        refine Seg.step rfl rfl (Yd.move rfl) ?_
        refine Seg.step rfl rfl (Yd.move rfl) ?_
        refine Seg.step rfl rfl (Yd.eqlS rfl rfl) ?_
        refine Seg.step rfl rfl (Yd.move rfl) ?_
        refine Seg.gsplitp rfl rfl (fun h182 => ?_) (fun h182 => ?_)
        · refine Seg.step rfl rfl (Yd.move rfl) ?_
          refine Seg.step rfl rfl (Yd.move rfl) ?_
          refine Seg.step rfl rfl (Yd.eqlS rfl rfl) ?_
          refine Seg.step rfl rfl (Yd.pickT rfl rfl) ?_
          refine Seg.step rfl rfl (Yd.move rfl) ?_
          refine Seg.gsplitp rfl rfl (fun h189 => ?_) (fun h189 => ?_)
          · refine Seg.step rfl rfl (Yd.move rfl) ?_
            refine Seg.step rfl rfl (Yd.eql rfl rfl) ?_
            refine Seg.step rfl rfl (Yd.pickT rfl rfl) ?_
            refine Seg.step rfl rfl (Yd.move rfl) ?_
            refine Seg.step rfl rfl (Yd.move rfl) ?_
            refine Seg.step rfl rfl (Yd.move rfl) ?_
            refine Seg.step rfl rfl (Yd.eqlS rfl rfl) ?_
            refine Seg.step rfl rfl (Yd.pickT rfl rfl) ?_
            refine Seg.step rfl rfl (Yd.move rfl) ?_
            refine Seg.gsplitp rfl rfl (fun h200 => ?_) (fun h200 => ?_)
            · refine Seg.step rfl rfl (Yd.move rfl) ?_
              refine Seg.step rfl rfl (Yd.eql rfl rfl) ?_
              refine Seg.step rfl rfl (Yd.pickT rfl rfl) ?_
              refine Seg.step rfl rfl (Yd.assign rfl) ?_
              refine Seg.nil ?_
              refine At.then_ ?_
              refine Cd.ret ?_
              exact At.ret Tryz.results3 (.tmp rfl .nil) ⟨by simp; rfl, hE0⟩
            · contradiction
          · contradiction
        · contradiction
    · have hne := host_err he
      refine Cd.seq ?_
      refine Cd.region ?_
      refine Seg.step rfl rfl (Yd.assign rfl) ?_
      refine Seg.nil ?_
      refine At.then_ ?_
      refine Cd.seq ?_
      refine Cd.seq ?_
      refine Cd.region ?_
      (refine Seg.call rfl rfl (own_of rfl) rfl (wired_any _) ?_; rintro _ w9 ⟨rfl, hE9⟩)
      replace hE0 := Ext.trans hE0 hE9
      refine Seg.step rfl rfl (Yd.not rfl) ?_
      refine Seg.step rfl rfl (Yd.move rfl) ?_
      refine Seg.step rfl rfl (Yd.move rfl) ?_
      refine Seg.step rfl rfl (Yd.lenStr rfl rfl) ?_
      refine Seg.step rfl rfl (Yd.gtr rfl rfl) ?_
      refine Seg.step rfl rfl (Yd.pickF rfl rfl) ?_
      refine Seg.nil ?_
      refine At.then_ ?_
      refine Cd.condk rfl (fun h18 => ?_) (fun h18 => ?_)
      · exfalso; omega
      · refine Cd.skip ?_
        refine At.then_ ?_
        refine Cd.seq ?_
        refine Cd.region ?_
        refine Seg.step rfl rfl (Yd.move rfl) ?_
        (refine Seg.call rfl rfl (own_of rfl) rfl (ihost_any s _ (by omega)) ?_; rintro _ w25 ⟨rfl, hE25⟩)
        replace hE9 := Ext.trans hE9 hE25
        replace hE0 := Ext.trans hE0 hE25
        refine Seg.step rfl rfl (Yd.move rfl) ?_
        refine Seg.step rfl rfl (Yd.extract rfl rfl) ?_
        refine Seg.step rfl rfl (Yd.extract rfl rfl) ?_
        refine Seg.step rfl rfl (Yd.assign rfl) ?_
        refine Seg.step rfl rfl (Yd.assign rfl) ?_
        refine Seg.nil ?_
        refine At.then_ ?_
        refine Cd.seq ?_
        refine Cd.seq ?_
        refine Cd.region ?_
        refine Seg.step rfl rfl (Yd.move rfl) ?_
        refine Seg.step rfl rfl (Yd.neq rfl rfl) ?_
        refine Seg.nil ?_
        refine At.then_ ?_
        refine Cd.condk rfl (fun h40 => ?_) (fun h40 => ?_)
        · refine Cd.seq ?_
          refine Cd.region ?_
          refine Seg.step rfl rfl (Yd.move rfl) ?_
          refine Seg.step rfl rfl (Yd.eqlS rfl rfl) ?_
          refine Seg.step rfl rfl (Yd.assign rfl) ?_
          refine Seg.nil ?_
          refine At.then_ ?_
          refine Cd.ret ?_
          refine At.then_ret ?_
          exact At.ret Tryz.results3 (.tmp rfl .nil) ⟨congrArg Value.bool (decide_eq_true hne), hE0⟩
        · exfalso; omega
end Go.Proofs.YtahpiaaffeiadaaGreatDoor
