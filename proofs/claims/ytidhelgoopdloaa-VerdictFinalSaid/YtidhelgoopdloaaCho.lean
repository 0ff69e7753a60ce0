/- The walk of the law ChainOnly. -/
import Derived.Test.YtidhelgoopdloaaChe
import Derived.Test.YtidhelgoopdloaaNms
import Derived.Test.YtidhelgoopdloaaRcs
namespace Go.Proofs.Ytidhelgoopdloaa
open Go Go.RowKit
theorem lk_mem {qt qc : Int} {n : Name} {rs : List Rec} {r : Rec} (h : lk qt qc n rs = some r) : r ∈ rs := List.mem_of_find?_eq_some h
theorem fo_fit {rs : List Rec} {qt qc : Int} (hf : ∀ r ∈ rs, FitR r) : ∀ (k : Nat) (n : Name) (c : Bool) (t : Int), Fit n → Fit (fo (recsOf qt qc · rs) (lk qt qc · rs) k n c t).nm
  | k, n, c, t, h => by
    by_cases hR : recsOf qt qc n rs ≠ []
    · rw [fo, if_pos hR]; exact h
    · cases hK : lk qt qc n rs with
      | none => rw [fo, if_neg hR, hK]; exact h
      | some r =>
        cases k with
        | zero => rw [fo, if_neg hR, hK]; exact ⟨by simp, fun _ h => by cases h⟩
        | succ k =>
          have he : fo (recsOf qt qc · rs) (lk qt qc · rs) (k + 1) n c t = fo (recsOf qt qc · rs) (lk qt qc · rs) k r.tg true (leastOf c t r.ttl) := by
            rw [fo, if_neg hR, hK]
          rw [he]
          exact fo_fit hf k r.tg true _ (hf r (lk_mem hK)).2.1
/-- What is found is of the question. -/
theorem fol_picks {rs : List Rec} {qt qc : Int} {n : Name} : (∀ r ∈ (folR qt qc rs n).rs, Picks qt qc (folR qt qc rs n).nm r) ∧ (folR qt qc rs n).rs.length ≤ rs.length ∧ ∀ r ∈ (folR qt qc rs n).rs, r ∈ rs := by
  rcases fol_fine (qt := qt) (qc := qc) (rs := rs) (n := n) with ⟨_, h⟩ | ⟨_, _, _, _, _, h⟩
  · rw [h]; exact ⟨(fun _ h => by cases h), Nat.zero_le _, (fun _ h => by cases h)⟩
  · generalize folR qt qc rs n = o at *
    rw [h]
    exact ⟨fun r hr => by simpa using (List.mem_filter.1 hr).2, recsOf_le _ _ _ _, fun r hr => (List.mem_filter.1 hr).1⟩
theorem nms_len (R : Name → List Rec) (K : Name → Option Rec) : ∀ (k : Nat) (n : Name), (nms R K k n).length ≤ k + 1
  | 0, n => by simp [nms]
  | k + 1, n => by
    rw [nms]
    split
    · simp
    · cases K n with
      | none => simp
      | some r => have := nms_len R K k r.tg; simp; omega
theorem fol_nfit {rs : List Rec} {qt qc : Int} {n : Name} (hf : ∀ r ∈ rs, FitR r) (h : Fit n) : Fit (folR qt qc rs n).nm := by
  unfold folR
  rw [fol_fo]
  exact fo_fit hf 16 n false 0 h
theorem follow_out (rs : List Rec) (qn : Name) (vq v1 : Value) (qt qc : Int) (w : World) (h0 : RecsAt w v1 rs) (h1 : NameAt w vq qn) (hf : ∀ r ∈ rs, FitR r) (hq : Fit qn) (hl : rs.length ≤ 1000) (o : Out) (ho : folR qt qc rs qn = o) :
    Ret Try.prog 14 #[.agg #[vq, .int .i64 qt, .int .i64 qc], v1] w fun v w' => (∃ an cn ar cr, v = .tuple #[.agg #[.slice an o.nm.length cn, .slice ar o.rs.length cr, .int .i64 o.ttl, .int .i64 o.links], .int .i64 o.e] ∧ NmB w' w'.heap.size (.slice an o.nm.length cn) o.nm ∧ SlK w' w'.heap.size 33 (.slice ar o.rs.length cr) o.rs.length (recsV o.rs)) ∧ Ext w w' := by
  have h := follow_any rs qn vq v1 qt qc w h0 h1 hf hq hl
  rw [show fol qt qc rs 16 qn false 0 = folR qt qc rs qn from rfl, ho] at h
  refine h.mono ?_
  rintro _ w4 ⟨⟨vn, vr, rfl, hvn, hvr⟩, hE⟩
  obtain ⟨an, cn, rfl⟩ := name_shape hvn
  obtain ⟨ar, cr, rfl⟩ := recsAt_shape hvr
  exact ⟨⟨an, cn, ar, cr, rfl, ⟨hvn, hvn.lt⟩, hvr.1, hvr.1.lt⟩, hE⟩
theorem sl_shape {w : World} {k m : Nat} {v : Value} {cs : List Value} (h : Sl w k v m cs) : ∃ ao c, v = .slice ao m c := by
  obtain ⟨ao, c, rfl, _⟩ := h
  exact ⟨ao, c, rfl⟩
theorem recAt_one {w : World} {r : Rec} (h : RecAt w r) : r.vn.oneCell' = true ∧ r.vt.oneCell' = true ∧ r.vm.oneCell' = true := ⟨name_one h.1, name_one h.2.1, name_one h.2.2⟩
theorem recsV_take (rs : List Rec) (i : Nat) : recsV (rs.take i) = (recsV rs).take (i * 33) := by
  rcases Nat.lt_or_ge i rs.length with h | h
  · conv => rhs; rw [← List.take_append_drop i rs, recsV_append]
    rw [List.take_left' (by rw [recsV_length, List.length_take]; congr 1; omega)]
  · rw [List.take_of_length_le h, List.take_of_length_le (by rw [recsV_length]; exact Nat.mul_le_mul_right _ h)]
theorem recsV_drop (rs : List Rec) (i : Nat) : recsV (rs.drop i) = (recsV rs).drop (i * 33) := by
  rcases Nat.lt_or_ge i rs.length with h | h
  · conv => rhs; rw [← List.take_append_drop i rs, recsV_append]
    rw [List.drop_left' (by rw [recsV_length, List.length_take]; congr 1; omega)]
  · rw [List.drop_of_length_le h, List.drop_of_length_le (by rw [recsV_length]; exact Nat.mul_le_mul_right _ h)]; rfl
theorem cut_take {w : World} {ao : Option Addr} {c i : Nat} {rs : List Rec} (h : RecsAt w (.slice ao rs.length c) rs) (h1 : i ≤ rs.length) (h2 : rs.length ≤ c) : Sl w 33 (sliced ao 0 i c 33) i (recsV (rs.take i)) := by
  have := Sl.cut h.1 (Nat.zero_le i) h1 h2
  rw [recsV_take]
  simpa using this
theorem cut_drop {w : World} {ao : Option Addr} {c i : Nat} {rs : List Rec} (h : RecsAt w (.slice ao rs.length c) rs) (h1 : i ≤ rs.length) (h2 : rs.length ≤ c) : Sl w 33 (sliced ao i rs.length c 33) (rs.length - i) (recsV (rs.drop i)) := by
  have := Sl.cut h.1 h1 (Nat.le_refl _) h2
  rw [recsV_drop]
  rwa [List.take_of_length_le (by rw [List.length_drop, recsV_length, Nat.sub_mul]; exact Nat.le_refl _)] at this
theorem own_one {w : World} {base e k : Nat} {v : Value} {a : Array Value} (h : w.ownsRow base e k v 1 ([Value.agg a].flatMap zcells)) : Sl w k v 1 a.toList := by
  have := own_sl h
  simpa [zcells, Value.cells] using this
set_option maxHeartbeats 400000 in
theorem law26a (rs : List Rec) (qn : Name) (vq : Value) (av : Option Addr) (cv : Nat) (hcv : rs.length ≤ cv) (qt qc : Int) (o : Rec) (w : World) (h0 : RecsAt w (.slice av rs.length cv) rs) (h1 : NameAt w vq qn) (ho : RecAt w o) (hh : ∀ r ∈ rs, HeldR r) (hho : HeldR o) (hq : Held qn) (hw : ∀ r ∈ rs, WfR r) :
    Ret Try.prog 4 #[.agg #[vq, .int .i64 qt, .int .i64 qc], (.slice av rs.length cv), .agg o.cells.toArray] w fun v w' => v = .bool true ∧ Ext w w' := by
  have hE0 := Ext.refl w
  have hin0 : RecsAt w (.slice av rs.length cv) rs ∧ True := ⟨h0, trivial⟩
  have hinq : Keep (NameAt w vq qn) := h1
  have hino : Keep (RecAt w o) := ho
  refine Ret.body Try.func4 rfl Try.ntmps4 rfl ?_
  refine Cd.seq ?_
  refine Cd.region ?_
  refine Seg.box rfl rfl rfl (fun w4 b4 hE4 hB4 hb4 => ?_)
  have hlt4_0 := Nat.le_trans hE0.size hb4
  replace h0 := h0.ext hE4
  replace ho := ho.ext hE4
  replace hE0 := Ext.trans hE0 hE4
  refine Seg.box rfl rfl rfl (fun w5 b5 hE5 hB5 hb5 => ?_)
  have hlt5_0 := Nat.le_trans hE4.size hb5
  have hlt5_1 := Nat.lt_of_lt_of_le hB4.lt hb5
  have hlt5_2 := Nat.le_trans hE0.size hb5
  replace hE4 := Ext.trans hE4 hE5
  replace hB4 := hB4.ext hE5
  replace h0 := h0.ext hE5
  replace ho := ho.ext hE5
  replace hE0 := Ext.trans hE0 hE5
  refine Seg.step rfl rfl (Yd.assign rfl) ?_
  refine Seg.nil ?_
  refine At.then_ ?_
  refine Cd.seq ?_
  refine Cd.seq ?_
  refine Cd.region ?_
  (refine Seg.call rfl rfl (own_of rfl) rfl (works26 _) ?_; rintro _ w12 ⟨rfl, hE12⟩)
  replace hE5 := Ext.trans hE5 hE12
  replace hB5 := hB5.ext hE12
  replace hE4 := Ext.trans hE4 hE12
  replace hB4 := hB4.ext hE12
  replace h0 := h0.ext hE12
  replace ho := ho.ext hE12
  replace hE0 := Ext.trans hE0 hE12
  refine Seg.step rfl rfl (Yd.not rfl) ?_
  refine Seg.step rfl rfl (Yd.move rfl) ?_
  refine Seg.step rfl rfl (Yd.move rfl) ?_
  (refine Seg.call rfl rfl (own_of rfl) rfl (small26 rs (.slice av rs.length cv) _ h0 hh) ?_; rintro _ w16 ⟨⟨b1, rfl, k1⟩, hE16⟩)
  replace hE12 := Ext.trans hE12 hE16
  replace hE5 := Ext.trans hE5 hE16
  replace hB5 := hB5.ext hE16
  replace hE4 := Ext.trans hE4 hE16
  replace hB4 := hB4.ext hE16
  replace h0 := h0.ext hE16
  replace ho := ho.ext hE16
  replace hE0 := Ext.trans hE0 hE16
  refine Seg.step rfl rfl (Yd.not rfl) ?_
  refine Seg.step rfl rfl (Yd.pickF rfl rfl) ?_
  refine Seg.step rfl rfl (Yd.move rfl) ?_
  refine Seg.gsplit rfl rfl (fun h20 => ?_) (fun h20 => ?_)
  · refine Seg.skip rfl rfl ?_
    refine Seg.skip rfl rfl ?_
    refine Seg.skip rfl rfl ?_
    refine Seg.step rfl rfl (Yd.pickT rfl rfl) ?_
    refine Seg.step rfl rfl (Yd.move rfl) ?_
    refine Seg.skip rfl rfl ?_
    refine Seg.skip rfl rfl ?_
    refine Seg.skip rfl rfl ?_
    refine Seg.skip rfl rfl ?_
    refine Seg.step rfl rfl (Yd.pickT rfl rfl) ?_
    refine Seg.nil ?_
    refine At.then_ ?_
    refine Cd.condT rfl ?_
    refine Cd.seq ?_
    refine Cd.region ?_
    (refine Seg.call rfl rfl (own_of rfl) rfl (works26 _) ?_; rintro _ w37 ⟨rfl, hE37⟩)
    replace hE16 := Ext.trans hE16 hE37
    replace hE12 := Ext.trans hE12 hE37
    replace hE5 := Ext.trans hE5 hE37
    replace hB5 := hB5.ext hE37
    replace hE4 := Ext.trans hE4 hE37
    replace hB4 := hB4.ext hE37
    replace h0 := h0.ext hE37
    replace ho := ho.ext hE37
    replace hE0 := Ext.trans hE0 hE37
    refine Seg.step rfl rfl (Yd.assign rfl) ?_
    refine Seg.nil ?_
    refine At.then_ ?_
    refine Cd.ret ?_
    refine At.then_ret ?_
    exact At.ret Try.results4 (.tmp rfl .nil) ⟨rfl, hE0⟩
  refine Seg.step rfl rfl (Yd.loadN rfl rfl rfl hB5.row) ?_
  (refine Seg.call rfl rfl (own_of rfl) rfl (small13 o _ ho hho) ?_; rintro _ w46 ⟨⟨b2, rfl, k2⟩, hE46⟩)
  replace hE16 := Ext.trans hE16 hE46
  replace hE12 := Ext.trans hE12 hE46
  replace hE5 := Ext.trans hE5 hE46
  replace hB5 := hB5.ext hE46
  replace hE4 := Ext.trans hE4 hE46
  replace hB4 := hB4.ext hE46
  replace h0 := h0.ext hE46
  replace ho := ho.ext hE46
  replace hE0 := Ext.trans hE0 hE46
  refine Seg.step rfl rfl (Yd.not rfl) ?_
  refine Seg.step rfl rfl (Yd.pickF rfl rfl) ?_
  refine Seg.step rfl rfl (Yd.move rfl) ?_
  refine Seg.gsplit rfl rfl (fun h50 => ?_) (fun h50 => ?_)
  · refine Seg.skip rfl rfl ?_
    refine Seg.skip rfl rfl ?_
    refine Seg.skip rfl rfl ?_
    refine Seg.skip rfl rfl ?_
    refine Seg.step rfl rfl (Yd.pickT rfl rfl) ?_
    refine Seg.nil ?_
    refine At.then_ ?_
    refine Cd.condT rfl ?_
    refine Cd.seq ?_
    refine Cd.region ?_
    (refine Seg.call rfl rfl (own_of rfl) rfl (works26 _) ?_; rintro _ w62 ⟨rfl, hE62⟩)
    replace hE46 := Ext.trans hE46 hE62
    replace hE16 := Ext.trans hE16 hE62
    replace hE12 := Ext.trans hE12 hE62
    replace hE5 := Ext.trans hE5 hE62
    replace hB5 := hB5.ext hE62
    replace hE4 := Ext.trans hE4 hE62
    replace hB4 := hB4.ext hE62
    replace h0 := h0.ext hE62
    replace ho := ho.ext hE62
    replace hE0 := Ext.trans hE0 hE62
    refine Seg.step rfl rfl (Yd.assign rfl) ?_
    refine Seg.nil ?_
    refine At.then_ ?_
    refine Cd.ret ?_
    refine At.then_ret ?_
    exact At.ret Try.results4 (.tmp rfl .nil) ⟨rfl, hE0⟩
  refine Seg.step rfl rfl (Yd.fieldAddr rfl rfl) ?_
  refine Seg.step rfl rfl (Yd.load1 rfl rfl (hB4.row _ _ rfl)) ?_
  (refine Seg.call rfl rfl (own_of rfl) rfl (few_any qn vq _ (h1.ext hE0) hq) ?_; rintro _ w72 ⟨⟨b3, rfl, k3⟩, hE72⟩)
  replace hE46 := Ext.trans hE46 hE72
  replace hE16 := Ext.trans hE16 hE72
  replace hE12 := Ext.trans hE12 hE72
  replace hE5 := Ext.trans hE5 hE72
  replace hB5 := hB5.ext hE72
  replace hE4 := Ext.trans hE4 hE72
  replace hB4 := hB4.ext hE72
  replace h0 := h0.ext hE72
  replace ho := ho.ext hE72
  replace hE0 := Ext.trans hE0 hE72
  refine Seg.step rfl rfl (Yd.not rfl) ?_
  refine Seg.step rfl rfl (Yd.pickF rfl rfl) ?_
  refine Seg.nil ?_
  refine At.then_ ?_
  refine Cd.condkb rfl (fun h77 => ?_) (fun h77 => ?_)
  · refine Cd.seq ?_
    refine Cd.region ?_
    (refine Seg.call rfl rfl (own_of rfl) rfl (works26 _) ?_; rintro _ w81 ⟨rfl, hE81⟩)
    replace hE72 := Ext.trans hE72 hE81
    replace hE46 := Ext.trans hE46 hE81
    replace hE16 := Ext.trans hE16 hE81
    replace hE12 := Ext.trans hE12 hE81
    replace hE5 := Ext.trans hE5 hE81
    replace hB5 := hB5.ext hE81
    replace hE4 := Ext.trans hE4 hE81
    replace hB4 := hB4.ext hE81
    replace h0 := h0.ext hE81
    replace ho := ho.ext hE81
    replace hE0 := Ext.trans hE0 hE81
    refine Seg.step rfl rfl (Yd.assign rfl) ?_
    refine Seg.nil ?_
    refine At.then_ ?_
    refine Cd.ret ?_
    refine At.then_ret ?_
    exact At.ret Try.results4 (.tmp rfl .nil) ⟨rfl, hE0⟩
  refine Cd.skip ?_
  refine At.then_ ?_
  refine Cd.seq ?_
  refine Cd.region ?_
  refine Seg.step rfl rfl (Yd.loadN rfl rfl rfl hB4.row) ?_
  refine Seg.step rfl rfl (Yd.move rfl) ?_
  obtain ⟨hl, hf⟩ := k1 (by simpa using h20)
  have hfo := k2 (by simpa using h50)
  have hfq := k3 (by simpa using h77)
  obtain ⟨hpk, hol, hom⟩ := fol_picks (qt := qt) (qc := qc) (rs := rs) (n := qn)
  have honf := fol_nfit (qt := qt) (qc := qc) (n := qn) hf hfq
  generalize hout : folR qt qc rs qn = out at hpk hol hom honf
  have hc2 := follow_out rs qn vq (.slice av rs.length cv) qt qc w72 h0 (h1.ext hE0) hf hfq (by omega) out hout
  obtain ⟨nm, R, ttl, L, e⟩ := out
  simp only at hpk hol hom honf hc2
  (refine Seg.call rfl rfl (own_of rfl) rfl hc2 ?_; rintro _ w78 ⟨⟨an, cn, ar, cr, rfl, hvn, hvr⟩, hE78⟩)
  replace hE72 := Ext.trans hE72 hE78
  replace hE46 := Ext.trans hE46 hE78
  replace hE16 := Ext.trans hE16 hE78
  replace hE12 := Ext.trans hE12 hE78
  replace hE5 := Ext.trans hE5 hE78
  replace hB5 := hB5.ext hE78
  replace hE4 := Ext.trans hE4 hE78
  replace hB4 := hB4.ext hE78
  replace h0 := h0.ext hE78
  replace ho := ho.ext hE78
  replace hE0 := Ext.trans hE0 hE78
  refine Seg.step rfl rfl (Yd.move rfl) ?_
  refine Seg.step rfl rfl (Yd.extract rfl rfl) ?_
  refine Seg.step rfl rfl (Yd.extract rfl rfl) ?_
  refine Seg.alloc rfl rfl rfl (fun w82 b82 hE82 hB82 hb82 => ?_)
  have hlt82_0 := Nat.le_trans hE78.size hb82
  have hlt82_1 := Nat.le_trans hE72.size hb82
  have hlt82_2 := Nat.le_trans hE46.size hb82
  have hlt82_3 := Nat.le_trans hE16.size hb82
  have hlt82_4 := Nat.le_trans hE12.size hb82
  have hlt82_5 := Nat.le_trans hE5.size hb82
  have hlt82_6 := Nat.lt_of_lt_of_le hB5.lt hb82
  have hlt82_7 := Nat.le_trans hE4.size hb82
  have hlt82_8 := Nat.lt_of_lt_of_le hB4.lt hb82
  have hlt82_9 := Nat.le_trans hE0.size hb82
  replace hE78 := Ext.trans hE78 hE82
  replace hvn := hvn.ext hE82
  replace hvr := hvr.ext hE82
  replace hE72 := Ext.trans hE72 hE82
  replace hE46 := Ext.trans hE46 hE82
  replace hE16 := Ext.trans hE16 hE82
  replace hE12 := Ext.trans hE12 hE82
  replace hE5 := Ext.trans hE5 hE82
  replace hB5 := hB5.ext hE82
  replace hE4 := Ext.trans hE4 hE82
  replace hB4 := hB4.ext hE82
  replace h0 := h0.ext hE82
  replace ho := ho.ext hE82
  replace hE0 := Ext.trans hE0 hE82
  refine Seg.storeN rfl rfl rfl rfl hB82 rfl (by first | assumption | exact List.all_eq_true.1 rfl) (fun w83 hW83 hB83 => ?_)
  clear hB82
  replace hE82 := Ext.wr' hE82 hW83 (by omega)
  replace hE78 := Ext.wr' hE78 hW83 (by omega)
  replace hvn := hvn.wr hW83 (by omega)
  replace hvr := hvr.wr hW83 (by omega)
  replace hE72 := Ext.wr' hE72 hW83 (by omega)
  replace hE46 := Ext.wr' hE46 hW83 (by omega)
  replace hE16 := Ext.wr' hE16 hW83 (by omega)
  replace hE12 := Ext.wr' hE12 hW83 (by omega)
  replace hE5 := Ext.wr' hE5 hW83 (by omega)
  replace hB5 := hB5.wr hW83 (by omega)
  replace hE4 := Ext.wr' hE4 hW83 (by omega)
  replace hB4 := hB4.wr hW83 (by omega)
  replace hE0 := Ext.wr' hE0 hW83 (by omega)
  refine Seg.step rfl rfl (Yd.assign rfl) ?_
  refine Seg.nil ?_
  refine At.then_ ?_
  refine Cd.seq ?_
  refine Cd.seq ?_
  refine Cd.region ?_
  refine Seg.step rfl rfl (Yd.assign rfl) ?_
  refine Seg.nil ?_
  refine At.then_ ?_
  refine Cd.block ?_
  have hk0 : Keep (RecsAt w (.slice av rs.length cv) rs) := hin0.1
  have hrw : ∀ r ∈ rs, RecAt w r := hin0.1.2
  have hkq : Keep (Bx w83 b4 [vq, .int .i64 qt, .int .i64 qc]) := hB4
  have hko : Keep (Bx w83 b5 o.cells) := hB5
  have hka : Keep (Bx w83 b82 [.slice an nm.length cn, .slice ar R.length cr, .int .i64 ttl, .int .i64 L]) := hB83
  have hkn : Keep (NmB w83 w78.heap.size (.slice an nm.length cn) nm) := hvn
  have hkr : Keep (SlK w83 w78.heap.size 33 (.slice ar R.length cr) R.length (recsV R)) := hvr
  have hkE : Keep (Ext w w83) := hE0
  have hk1 : Keep (RecAt w o) := hino
  clear hE82 hE78 hvn hvr hE72 hE46 hE16 hE12 hE5 hB5 hE4 hB4 hE0 hB83 hW83 h0 ho hc2
  refine Cd.loop (σ := Nat) (fun i => [(1, (.slice av rs.length cv)), (3, .pointer (some ⟨b4, 0, none⟩)), (5, .pointer (some ⟨b5, 0, none⟩)), (7, .pointer (some ⟨b82, 0, none⟩)), (8, .int .i64 e), (9, .int .i64 i)])
    (fun i w' => i ≤ R.length ∧ Ext w83 w') (fun i => R.length - i) 0 (.cons rfl (.cons rfl (.cons rfl (.cons rfl (.cons rfl (.cons rfl (.nil _))))))) ⟨Nat.zero_le _, Ext.refl _⟩ ?_
  rintro i w0 ⟨hi, hE⟩
  have hE0 : Ext w w0 := Ext.trans hkE hE
  have h0 : RecsAt w0 (.slice av rs.length cv) rs := RecsAt.ext hk0 hE0
  have ho : RecAt w0 o := RecAt.ext hk1 hE0
  have hB4 : Bx w0 b4 [vq, .int .i64 qt, .int .i64 qc] := Bx.ext hkq hE
  have hB5 : Bx w0 b5 o.cells := Bx.ext hko hE
  have hBa : Bx w0 b82 [.slice an nm.length cn, .slice ar R.length cr, .int .i64 ttl, .int .i64 L] := Bx.ext hka hE
  have hvn : NmB w0 w78.heap.size (.slice an nm.length cn) nm := NmB.ext hkn hE
  have hvr : SlK w0 w78.heap.size 33 (.slice ar R.length cr) R.length (recsV R) := SlK.ext hkr hE
  have hrec := h0.2
  by_cases hlt : i < R.length
  · obtain ⟨⟨ar', cr', he, hl1, hr1, hz1⟩, _⟩ := id hvr
    cases he
    obtain ⟨a, rfl⟩ : ∃ a, ar = some a := by
      cases ar with
      | none => have := hz1 rfl; omega
      | some a => exact ⟨a, rfl⟩
    obtain ⟨r, hri⟩ : ∃ r, R[i]? = some r := ⟨_, List.getElem?_eq_getElem hlt⟩
    have hmem := List.mem_of_getElem? hri
    obtain ⟨hp1, hp2, hp3⟩ := hpk r hmem
    have hra := hrec r (hom r hmem)
    have hone := rec_one hra
    have hrow := recs_part (hr1 a rfl) hri
    refine Cd.seq ?_
    refine Cd.seq ?_
    refine Cd.region ?_
    refine Seg.step rfl rfl (Yd.move rfl) ?_
    refine Seg.step rfl rfl (Yd.fieldAddr rfl rfl) ?_
    refine Seg.step rfl rfl (Yd.load1 rfl rfl (hBa.row _ _ rfl)) ?_
    refine Seg.step rfl rfl (Yd.lenS rfl rfl) ?_
    refine Seg.step rfl rfl (Yd.lss rfl rfl) ?_
    refine Seg.nil ?_
    refine At.then_ ?_
    refine Cd.condk rfl (fun h94 => ?_) (fun h94 => ?_)
    · refine Cd.skip ?_
      refine At.then_ ?_
      refine Cd.seq ?_
      refine Cd.block ?_
      refine Cd.seq ?_
      refine Cd.region ?_
      refine Seg.step rfl rfl (Yd.fieldAddr rfl rfl) ?_
      refine Seg.step rfl rfl (Yd.load1 rfl rfl (hBa.row _ _ rfl)) ?_
      refine Seg.step rfl rfl (Yd.move rfl) ?_
      refine Seg.step rfl rfl (Yd.indexAddr rfl rfl rfl (NatOf.cast _) (by omega)) ?_
      refine Seg.step rfl rfl (Yd.loadN rfl rfl rfl hrow) ?_
      refine Seg.alloc rfl rfl rfl (fun w107 b107 hE107 hB107 hb107 => ?_)
      have hlt107_0 := Nat.le_trans hE.size hb107
      have hlt107_1 := Nat.le_trans hE0.size hb107
      have hlt107_2 := Nat.lt_of_lt_of_le hB4.lt hb107
      have hlt107_3 := Nat.lt_of_lt_of_le hB5.lt hb107
      have hlt107_4 := Nat.lt_of_lt_of_le hBa.lt hb107
      replace hE := Ext.trans hE hE107
      replace hE0 := Ext.trans hE0 hE107
      replace h0 := h0.ext hE107
      replace ho := ho.ext hE107
      replace hB4 := hB4.ext hE107
      replace hB5 := hB5.ext hE107
      replace hvn := hvn.ext hE107
      replace hBa := hBa.ext hE107
      replace hvr := hvr.ext hE107
      replace hra := hra.ext hE107
      replace hrow := hrow.ext hE107
      refine Seg.storeN rfl rfl rfl rfl hB107 rfl (by first | assumption | exact List.all_eq_true.1 rfl) (fun w108 hW108 hB108 => ?_)
      clear hB107
      replace hE107 := Ext.wr' hE107 hW108 (by omega)
      replace hE := Ext.wr' hE hW108 (by omega)
      replace hE0 := Ext.wr' hE0 hW108 (by omega)
      replace hB4 := hB4.wr hW108 (by omega)
      replace hB5 := hB5.wr hW108 (by omega)
      replace hvn := hvn.wr hW108 (by omega)
      replace hBa := hBa.wr hW108 (by omega)
      replace hvr := hvr.wr hW108 (by omega)
      refine Seg.nil ?_
      refine At.then_ ?_
      refine Cd.seq ?_
      refine Cd.region ?_
      refine Seg.step rfl rfl (Yd.fieldAddr rfl rfl) ?_
      refine Seg.step rfl rfl (Yd.load1 rfl rfl (hB108.row _ _ rfl)) ?_
      refine Seg.step rfl rfl (Yd.fieldAddr rfl rfl) ?_
      refine Seg.step rfl rfl (Yd.load1 rfl rfl (hB4.row _ _ rfl)) ?_
      refine Seg.step rfl rfl (Yd.neq rfl rfl) ?_
      refine Seg.step rfl rfl (Yd.move rfl) ?_
      refine Seg.gsplitp rfl rfl (fun h119 => ?_) (fun h119 => ?_)
      · exfalso; omega
      · refine Seg.step rfl rfl (Yd.fieldAddr rfl rfl) ?_
        refine Seg.step rfl rfl (Yd.load1 rfl rfl (hB108.row _ _ rfl)) ?_
        refine Seg.step rfl rfl (Yd.fieldAddr rfl rfl) ?_
        refine Seg.step rfl rfl (Yd.load1 rfl rfl (hB4.row _ _ rfl)) ?_
        refine Seg.step rfl rfl (Yd.neq rfl rfl) ?_
        refine Seg.step rfl rfl (Yd.pickF rfl rfl) ?_
        refine Seg.step rfl rfl (Yd.move rfl) ?_
        refine Seg.gsplitp rfl rfl (fun h128 => ?_) (fun h128 => ?_)
        · exfalso; omega
        · refine Seg.step rfl rfl (Yd.fieldAddr rfl rfl) ?_
          refine Seg.step rfl rfl (Yd.load1 rfl rfl (hB108.row _ _ rfl)) ?_
          refine Seg.step rfl rfl (Yd.fieldAddr rfl rfl) ?_
          refine Seg.step rfl rfl (Yd.load1 rfl rfl (hBa.row _ _ rfl)) ?_
          (refine Seg.call rfl rfl (own_of rfl) rfl (same_any r.nm nm _ _ _ ((hrw r (hom r hmem)).1.ext hE0) hvn.1 (hf r (hom r hmem)).1 honf) ?_; rintro _ w134 ⟨rfl, hE134⟩)
          replace hW108 := Wr.trans hW108 (Ext.wr hE134 _)
          replace hB108 := hB108.ext hE134
          replace hE107 := Ext.trans hE107 hE134
          replace hE := Ext.trans hE hE134
          replace hE0 := Ext.trans hE0 hE134
          replace hB4 := hB4.ext hE134
          replace hB5 := hB5.ext hE134
          replace hvn := hvn.ext hE134
          replace hBa := hBa.ext hE134
          replace hvr := hvr.ext hE134
          refine Seg.step rfl rfl (Yd.notp rfl) ?_
          refine Seg.step rfl rfl (Yd.pickF rfl rfl) ?_
          refine Seg.nil ?_
          refine At.then_ ?_
          refine Cd.condk rfl (fun h139 => ?_) (fun h139 => ?_)
          · refine Cd.seq ?_
            refine Cd.region ?_
            refine Seg.step rfl rfl (Yd.assign rfl) ?_
            refine Seg.nil ?_
            refine At.then_ ?_
            refine Cd.ret ?_
            refine At.blk_ret ?_
            refine At.then_ret ?_
            refine At.then_ret ?_
            refine At.blk_ret ?_
            refine At.then_ret ?_
            exact absurd hp3 (by assumption)
          · refine Cd.skip ?_
            refine At.blk ?_
            refine At.then_ ?_
            refine Cd.region ?_
            refine Seg.step rfl rfl (Yd.move rfl) ?_
            refine Seg.step rfl rfl (Yd.addI rfl rfl (by omega)) ?_
            refine Seg.step rfl rfl (Yd.assign rfl) ?_
            refine Seg.nil ?_
            exact At.round (i + 1) (.cons rfl (.cons rfl (.cons rfl (.cons rfl (.cons rfl (.cons rfl (.nil _))))))) ⟨by omega, hE⟩ (by show _ - _ < _ - _; omega)
    · exfalso; omega
  · obtain rfl : i = R.length := by omega
    have hnc := names_any rs qn vq (.slice av rs.length cv) qt qc w0 h0 ((show NameAt w vq qn from hinq).ext hE0) hf hfq (by omega)
    refine Cd.seq ?_
    refine Cd.seq ?_
    refine Cd.region ?_
    refine Seg.step rfl rfl (Yd.move rfl) ?_
    refine Seg.step rfl rfl (Yd.fieldAddr rfl rfl) ?_
    refine Seg.step rfl rfl (Yd.load1 rfl rfl (hBa.row _ _ rfl)) ?_
    refine Seg.step rfl rfl (Yd.lenS rfl rfl) ?_
    refine Seg.step rfl rfl (Yd.lss rfl rfl) ?_
    refine Seg.nil ?_
    refine At.then_ ?_
    refine Cd.condk rfl (fun h94 => ?_) (fun h94 => ?_)
    · exfalso; omega
    refine Cd.exit ?_
    refine At.then_exit ?_
    refine At.then_exit ?_
    refine At.blk_same ?_
    refine At.then_ ?_
    refine Cd.seq ?_
    refine Cd.region ?_
    refine Seg.step rfl rfl (Yd.loadN rfl rfl rfl hB4.row) ?_
    refine Seg.step rfl rfl (Yd.move rfl) ?_
    (refine Seg.call rfl rfl (own_of rfl) rfl hnc ?_; rintro vN w105 ⟨⟨ps, hSN, hps, hpn⟩, hE105⟩; obtain ⟨aN, cN, rfl⟩ := sl_shape hSN)
    replace hE := Ext.trans hE hE105
    replace hE0 := Ext.trans hE0 hE105
    replace h0 := h0.ext hE105
    replace ho := ho.ext hE105
    replace hB4 := hB4.ext hE105
    replace hB5 := hB5.ext hE105
    replace hBa := hBa.ext hE105
    replace hvn := hvn.ext hE105
    replace hvr := hvr.ext hE105
    refine Seg.step rfl rfl (Yd.assign rfl) ?_
    refine Seg.nil ?_
    refine At.then_ ?_
    refine Cd.seq ?_
    refine Cd.seq ?_
    refine Cd.region ?_
    refine Seg.step rfl rfl (Yd.assign rfl) ?_
    refine Seg.nil ?_
    refine At.then_ ?_
    refine Cd.block ?_
    have hpl : ps.length ≤ 18 := by
      have h1 := nms_len (recsOf qt qc · rs) (lk qt qc · rs) 17 qn
      have h2 := congrArg List.length hpn
      rw [List.length_map] at h2
      rw [h2]; exact h1
    have hpw : ∀ p ∈ ps, NameAt w0 p.1 p.2 ∧ Fit p.2 := hps
    have hkS : Keep (Sl w105 1 (.slice aN ps.length cN) ps.length (ps.map Prod.fst)) := hSN
    have hk01 : Keep (Ext w0 w105) := hE105
    have hkE1 : Keep (Ext w83 w105) := hE
    clear hps hE105 hSN hE hE0 h0 ho hB4 hB5 hBa hvn hvr hrec hnc
    refine Cd.loop (σ := Nat) (fun i => [(1, (.slice av rs.length cv)), (3, .pointer (some ⟨b4, 0, none⟩)), (5, .pointer (some ⟨b5, 0, none⟩)), (7, .pointer (some ⟨b82, 0, none⟩)), (8, .int .i64 e), (11, .slice aN ps.length cN), (12, .int .i64 i)])
      (fun i w' => i ≤ ps.length ∧ (∀ j p, j < i → ps[j]? = some p → lowN p.2 ≠ lowN o.nm) ∧ Ext w105 w') (fun i => ps.length - i) 0 (.cons rfl (.cons rfl (.cons rfl (.cons rfl (.cons rfl (.cons rfl (.cons rfl (.nil _)))))))) ⟨Nat.zero_le _, fun _ _ h => absurd h (Nat.not_lt_zero _), Ext.refl _⟩ ?_
    rintro i w1 ⟨hi, hT, hE1⟩
    have hE := Ext.trans hkE1 hE1
    have hS : Sl w1 1 (.slice aN ps.length cN) ps.length (ps.map Prod.fst) := Sl.ext hkS hE1
    have hE01 : Ext w0 w1 := Ext.trans hk01 hE1
    have hE0 : Ext w w1 := Ext.trans hkE hE
    have h0 : RecsAt w1 (.slice av rs.length cv) rs := RecsAt.ext hk0 hE0
    have ho : RecAt w1 o := RecAt.ext hk1 hE0
    have hB4 : Bx w1 b4 [vq, .int .i64 qt, .int .i64 qc] := Bx.ext hkq hE
    have hB5 : Bx w1 b5 o.cells := Bx.ext hko hE
    have hBa : Bx w1 b82 [.slice an nm.length cn, .slice ar R.length cr, .int .i64 ttl, .int .i64 L] := Bx.ext hka hE
    have hvn : NmB w1 w78.heap.size (.slice an nm.length cn) nm := NmB.ext hkn hE
    have hvr : SlK w1 w78.heap.size 33 (.slice ar R.length cr) R.length (recsV R) := SlK.ext hkr hE
    have hrec := h0.2
    by_cases hlt : i < ps.length
    · obtain ⟨ar', cr', he, hl1, hr1, hz1⟩ := id hS
      cases he
      obtain ⟨a, rfl⟩ : ∃ a, aN = some a := by
        cases aN with
        | none => have := hz1 rfl; omega
        | some a => exact ⟨a, rfl⟩
      obtain ⟨p, hpi⟩ : ∃ p, ps[i]? = some p := ⟨_, List.getElem?_eq_getElem hlt⟩
      obtain ⟨hpa, hpf⟩ := hpw p (List.mem_of_getElem? hpi)
      have hR := hr1 a rfl
      have hget : (ps.map Prod.fst)[i]? = some p.1 := by rw [List.getElem?_map, hpi]; rfl
      refine Cd.seq ?_
      refine Cd.seq ?_
      refine Cd.region ?_
      refine Seg.step rfl rfl (Yd.move rfl) ?_
      refine Seg.step rfl rfl (Yd.move rfl) ?_
      refine Seg.step rfl rfl (Yd.lenS rfl rfl) ?_
      refine Seg.step rfl rfl (Yd.lss rfl rfl) ?_
      refine Seg.nil ?_
      refine At.then_ ?_
      refine Cd.condk rfl (fun h115 => ?_) (fun h115 => ?_)
      · refine Cd.skip ?_
        refine At.then_ ?_
        refine Cd.seq ?_
        refine Cd.block ?_
        refine Cd.seq ?_
        refine Cd.quiet (by kernel_rfl) (by kernel_rfl) ?_
        refine SegQ.step rfl rfl (fun w' hw' => Yd.move rfl) ?_
        refine SegQ.step rfl rfl (fun w' hw' => Yd.move rfl) ?_
        refine SegQ.step rfl rfl (fun w' hw' => Yd.indexAddr1 rfl rfl rfl (NatOf.cast _) (by omega)) ?_
        refine SegQ.step rfl rfl (fun w' hw' => Yd.load1 rfl rfl ((hR.ext hw') _ _ hget)) ?_
        refine SegQ.step rfl rfl (fun w' hw' => Yd.fieldAddr rfl rfl) ?_
        refine SegQ.step rfl rfl (fun w' hw' => Yd.load1 rfl rfl ((hB5.ext hw').row _ _ rfl)) ?_
        refine SegQ.call rfl rfl (own_of rfl) rfl (v := .bool (decide (lowN p.2 = lowN o.nm))) (fun w1 hE1 => (same_any p.2 o.nm _ _ w1 (hpa.ext (hE01.trans hE1)) (ho.1.ext hE1) hpf hfo.1).mono fun v w2 ⟨hv, hE⟩ => ⟨hv, hE1.trans hE⟩) ?_
        refine SegQ.nil fun w130 hE130 => ?_
        replace hE1 := Ext.trans hE1 hE130
        replace hE := Ext.trans hE hE130
        replace hE01 := Ext.trans hE01 hE130
        replace hE0 := Ext.trans hE0 hE130
        replace h0 := h0.ext hE130
        replace ho := ho.ext hE130
        replace hB4 := hB4.ext hE130
        replace hB5 := hB5.ext hE130
        replace hBa := hBa.ext hE130
        replace hvn := hvn.ext hE130
        replace hvr := hvr.ext hE130
        replace hS := hS.ext hE130
        replace hR := hR.ext hE130
        refine At.then_ ?_
        refine Cd.condk rfl (fun h132 => ?_) (fun h132 => ?_)
        · refine Cd.seq ?_
          refine Cd.region ?_
          refine Seg.step rfl rfl (Yd.assign rfl) ?_
          refine Seg.nil ?_
          refine At.then_ ?_
          refine Cd.ret ?_
          refine At.blk_ret ?_
          refine At.then_ret ?_
          refine At.then_ret ?_
          refine At.blk_ret ?_
          refine At.then_ret ?_
          exact At.ret Try.results4 (.tmp rfl .nil) ⟨rfl, hE0⟩
        · refine Cd.skip ?_
          refine At.blk ?_
          refine At.then_ ?_
          refine Cd.region ?_
          refine Seg.step rfl rfl (Yd.move rfl) ?_
          refine Seg.step rfl rfl (Yd.addI rfl rfl (by omega)) ?_
          refine Seg.step rfl rfl (Yd.assign rfl) ?_
          refine Seg.nil ?_
          exact At.round (i + 1) (.cons rfl (.cons rfl (.cons rfl (.cons rfl (.cons rfl (.cons rfl (.cons rfl (.nil _)))))))) ⟨by omega, (fun j q hj hq => by rcases Nat.lt_succ_iff_lt_or_eq.1 hj with hj | rfl; (exact hT j q hj hq); (rw [hpi] at hq; cases hq; assumption)), hE1⟩ (by show _ - _ < _ - _; omega)
      · exfalso; omega
    · obtain rfl : i = ps.length := by omega
      refine Cd.seq ?_
      refine Cd.seq ?_
      refine Cd.region ?_
      refine Seg.step rfl rfl (Yd.move rfl) ?_
      refine Seg.step rfl rfl (Yd.move rfl) ?_
      refine Seg.step rfl rfl (Yd.lenS rfl rfl) ?_
      refine Seg.step rfl rfl (Yd.lss rfl rfl) ?_
      refine Seg.nil ?_
      refine At.then_ ?_
      refine Cd.condk rfl (fun h115 => ?_) (fun h115 => ?_)
      · exfalso; omega
      refine Cd.exit ?_
      refine At.then_exit ?_
      refine At.then_exit ?_
      refine At.blk_same ?_
      refine At.then_ ?_
      refine Cd.seq ?_
      refine Cd.seq ?_
      refine Cd.region ?_
      refine Seg.step rfl rfl (Yd.assign rfl) ?_
      refine Seg.nil ?_
      refine At.then_ ?_
      refine Cd.block ?_
      have hdiff : ∀ m ∈ namesOf qt qc rs 17 qn, lowN m ≠ lowN o.nm := fun m hm => by
        rw [← hpn] at hm
        obtain ⟨p, hp, rfl⟩ := List.mem_map.1 hm
        obtain ⟨j, hj⟩ := List.getElem?_of_mem hp
        exact hT j p (List.getElem?_eq_some_iff.1 hj).1 hj
      clear hT hS hE01 hE0 h0 ho hB4 hB5 hBa hvn hvr hrec hkS hk01 hkE1 hpw hpl hpn
      refine Cd.loop (σ := Nat) (fun i => [(1, .slice av rs.length cv), (3, .pointer (some ⟨b4, 0, none⟩)), (5, .pointer (some ⟨b5, 0, none⟩)), (7, .pointer (some ⟨b82, 0, none⟩)), (8, .int .i64 e), (13, .int .i64 i)])
        (fun i w' => i ≤ rs.length + 1 ∧ Ext w83 w') (fun i => rs.length + 1 - i) 0 (.cons rfl (.cons rfl (.cons rfl (.cons rfl (.cons rfl (.cons rfl (.nil _))))))) ⟨Nat.zero_le _, hE⟩ ?_
      clear hE hE1
      rintro i w1 ⟨hi, hE⟩
      have hE0 : Ext w w1 := Ext.trans hkE hE
      have h0 : RecsAt w1 (.slice av rs.length cv) rs := RecsAt.ext hk0 hE0
      have ho : RecAt w1 o := RecAt.ext hk1 hE0
      have hB4 : Bx w1 b4 [vq, .int .i64 qt, .int .i64 qc] := Bx.ext hkq hE
      have hB5 : Bx w1 b5 o.cells := Bx.ext hko hE
      have hBa : Bx w1 b82 [.slice an nm.length cn, .slice ar R.length cr, .int .i64 ttl, .int .i64 L] := Bx.ext hka hE
      have hvn : NmB w1 w78.heap.size (.slice an nm.length cn) nm := NmB.ext hkn hE
      have hvr : SlK w1 w78.heap.size 33 (.slice ar R.length cr) R.length (recsV R) := SlK.ext hkr hE
      have hrec := h0.2
      by_cases hlt : i ≤ rs.length
      · have hone1 : ∀ c ∈ recsV (rs.take i), c.oneCell' = true := recs_one _ fun r hr => recAt_one (hrw r (List.mem_of_mem_take hr))
        have hone3 : ∀ c ∈ recsV (rs.drop i), c.oneCell' = true := recs_one _ fun r hr => recAt_one (hrw r (List.mem_of_mem_drop hr))
        have hone2 : ∀ c ∈ o.cells, c.oneCell' = true := rec_one ho
        have hsz := hE.size
        refine Cd.seq ?_
        refine Cd.seq ?_
        refine Cd.region ?_
        refine Seg.step rfl rfl (Yd.move rfl) ?_
        refine Seg.step rfl rfl (Yd.move rfl) ?_
        refine Seg.step rfl rfl (Yd.lenS rfl rfl) ?_
        refine Seg.step rfl rfl (Yd.leq rfl rfl) ?_
        refine Seg.nil ?_
        refine At.then_ ?_
        refine Cd.condk rfl (fun h125 => ?_) (fun h125 => ?_)
        rotate_left 1
        · exfalso; omega
        rotate_right 1
        refine Cd.skip ?_
        refine At.then_ ?_
        refine Cd.seq ?_
        refine Cd.block ?_
        refine Cd.seq ?_
        refine Cd.region ?_
        refine Seg.step rfl rfl (Yd.assign rfl) ?_
        refine Seg.nil ?_
        refine At.then_ ?_
        refine Cd.seq ?_
        refine Cd.region ?_
        refine Seg.step rfl rfl (Yd.move rfl) ?_
        refine Seg.step rfl rfl (Yd.move rfl) ?_
        refine Seg.step rfl rfl (Yd.move rfl) ?_
        refine Seg.step rfl rfl (Yd.slSlH rfl rfl rfl (NatOf.cast _) (by omega)) ?_
        refine Seg.appendNil (news := recsV (rs.take i)) (m' := i) rfl rfl rfl rfl rfl rfl rfl rfl rfl (cut_take h0 hlt hcv) hone1 (by omega) rfl (fun v2 w2 hO2 hG2 => ?_)
        replace hE := hE.trans hG2
        have hbg : Big w1.heap.size w2 := hG2.size
        have hE0 : Ext w w2 := Ext.trans hkE hE
        have h0 : RecsAt w2 (.slice av rs.length cv) rs := RecsAt.ext hk0 hE0
        have ho : RecAt w2 o := RecAt.ext hk1 hE0
        have hB4 : Bx w2 b4 [vq, .int .i64 qt, .int .i64 qc] := Bx.ext hkq hE
        have hB5 : Bx w2 b5 o.cells := Bx.ext hko hE
        have hBa : Bx w2 b82 [.slice an nm.length cn, .slice ar R.length cr, .int .i64 ttl, .int .i64 L] := Bx.ext hka hE
        have hvn : NmB w2 w78.heap.size (.slice an nm.length cn) nm := NmB.ext hkn hE
        have hvr : SlK w2 w78.heap.size 33 (.slice ar R.length cr) R.length (recsV R) := SlK.ext hkr hE
        have hrec := h0.2
        refine Seg.step rfl rfl (Yd.assign rfl) ?_
        refine Seg.nil ?_
        refine At.then_ ?_
        refine Cd.seq ?_
        refine Cd.region ?_
        refine Seg.step rfl rfl (Yd.move rfl) ?_
        refine Seg.step rfl rfl (Yd.loadN rfl rfl rfl hB5.row) ?_
        refine Seg.buildSliceV rfl rfl rfl rfl rfl rfl rfl rfl rfl rfl (fun w133 b133 hE133 hB133 hb133 hO133 => ?_)
        have hlt133_0 := Nat.le_trans hG2.size hb133
        have hlt133_1 := Nat.le_trans hE.size hb133
        have hlt133_2 := Nat.le_trans hE0.size hb133
        have hlt133_3 := Nat.lt_of_lt_of_le hB4.lt hb133
        have hlt133_4 := Nat.lt_of_lt_of_le hB5.lt hb133
        have hlt133_5 := Nat.lt_of_lt_of_le hBa.lt hb133
        replace hO2 := own_ext hO2 hE133
        replace hG2 := Ext.trans hG2 hE133
        replace hE := Ext.trans hE hE133
        replace hbg := hbg.ext hE133
        replace hE0 := Ext.trans hE0 hE133
        replace h0 := h0.ext hE133
        replace ho := ho.ext hE133
        replace hB4 := hB4.ext hE133
        replace hB5 := hB5.ext hE133
        replace hBa := hBa.ext hE133
        replace hvn := hvn.ext hE133
        replace hvr := hvr.ext hE133
        refine Seg.append (news := o.cells) (m' := 1) rfl rfl rfl rfl rfl rfl rfl rfl rfl hO2 (own_one (by assumption)) hone2 hbg (by omega) rfl (fun v3 w3 hO3 hG3 _ => ?_)
        replace hE := hE.own hO2 hsz hG3
        replace hbg : Big w1.heap.size w3 := Nat.le_trans hbg hG3.size
        have hE0 : Ext w w3 := Ext.trans hkE hE
        have h0 : RecsAt w3 (.slice av rs.length cv) rs := RecsAt.ext hk0 hE0
        have ho : RecAt w3 o := RecAt.ext hk1 hE0
        have hB4 : Bx w3 b4 [vq, .int .i64 qt, .int .i64 qc] := Bx.ext hkq hE
        have hB5 : Bx w3 b5 o.cells := Bx.ext hko hE
        have hBa : Bx w3 b82 [.slice an nm.length cn, .slice ar R.length cr, .int .i64 ttl, .int .i64 L] := Bx.ext hka hE
        have hvn : NmB w3 w78.heap.size (.slice an nm.length cn) nm := NmB.ext hkn hE
        have hvr : SlK w3 w78.heap.size 33 (.slice ar R.length cr) R.length (recsV R) := SlK.ext hkr hE
        have hrec := h0.2
        refine Seg.step rfl rfl (Yd.assign rfl) ?_
        refine Seg.nil ?_
        refine At.then_ ?_
        refine Cd.seq ?_
        refine Cd.region ?_
        refine Seg.step rfl rfl (Yd.move rfl) ?_
        refine Seg.step rfl rfl (Yd.move rfl) ?_
        refine Seg.step rfl rfl (Yd.move rfl) ?_
        refine Seg.step rfl rfl (Yd.slSlL rfl rfl rfl (NatOf.cast _) (by omega)) ?_
        refine Seg.append (news := recsV (rs.drop i)) (m' := rs.length - i) rfl rfl rfl rfl rfl rfl rfl rfl rfl hO3 (cut_drop h0 hlt hcv) hone3 hbg (by omega) rfl (fun v4 w4 hO4 hG4 _ => ?_)
        replace hE := hE.own hO3 hsz hG4
        have hE0 : Ext w w4 := Ext.trans hkE hE
        have h0 : RecsAt w4 (.slice av rs.length cv) rs := RecsAt.ext hk0 hE0
        have ho : RecAt w4 o := RecAt.ext hk1 hE0
        have hB4 : Bx w4 b4 [vq, .int .i64 qt, .int .i64 qc] := Bx.ext hkq hE
        have hB5 : Bx w4 b5 o.cells := Bx.ext hko hE
        have hBa : Bx w4 b82 [.slice an nm.length cn, .slice ar R.length cr, .int .i64 ttl, .int .i64 L] := Bx.ext hka hE
        have hvn : NmB w4 w78.heap.size (.slice an nm.length cn) nm := NmB.ext hkn hE
        have hvr : SlK w4 w78.heap.size 33 (.slice ar R.length cr) R.length (recsV R) := SlK.ext hkr hE
        have hrec := h0.2
        have hrs : RecsAt w4 v4 (rs.take i ++ [o] ++ rs.drop i) := by
          have hs := own_sl hO4
          have hlen : (rs.take i ++ [o] ++ rs.drop i).length = i + 1 + (rs.length - i) := by
            rw [List.length_append, List.length_append, List.length_take, List.length_drop]
            simp only [List.length_cons, List.length_nil]; omega
          refine ⟨?_, fun r hr => ?_⟩
          · rw [hlen, recsV_append, recsV_append, recsV_one]
            exact hs
          · rcases List.mem_append.1 hr with hr | hr
            · rcases List.mem_append.1 hr with hr | hr
              · exact hrec r (List.mem_of_mem_take hr)
              · cases List.mem_singleton.1 hr; exact ho
            · exact hrec r (List.mem_of_mem_drop hr)
        have hff : ∀ r ∈ rs.take i ++ [o] ++ rs.drop i, FitR r := fun r hr => by
          rcases List.mem_append.1 hr with hr | hr
          · rcases List.mem_append.1 hr with hr | hr
            · exact hf r (List.mem_of_mem_take hr)
            · cases List.mem_singleton.1 hr; exact hfo
          · exact hf r (List.mem_of_mem_drop hr)
        have hll : (rs.take i ++ [o] ++ rs.drop i).length ≤ 1000 := by
          rw [List.length_append, List.length_append, List.length_take, List.length_drop]
          simp only [List.length_cons, List.length_nil]; omega
        have hsame : folR qt qc (rs.take i ++ [o] ++ rs.drop i) qn = ⟨nm, R, ttl, L, e⟩ := by
          rw [fol_put (by rw [List.take_append_drop]; exact hdiff), List.take_append_drop]
          exact hout
        have hc3 := follow_out _ qn vq v4 qt qc w4 hrs ((show NameAt w vq qn from hinq).ext hE0) hff hfq hll _ hsame
        simp only at hc3
        clear hrs hO4 hO3 hO2 hG4 hG3 hG2
        have hwR : ∀ r ∈ R, WfR r := fun r hr => hw r (hom r hr)
        have hfR : ∀ r ∈ R, FitR r := fun r hr => hf r (hom r hr)
        refine Seg.step rfl rfl (Yd.assign rfl) ?_
        refine Seg.nil ?_
        refine At.then_ ?_
        refine Cd.seq ?_
        refine Cd.region ?_
        refine Seg.step rfl rfl (Yd.loadN rfl rfl rfl hB4.row) ?_
        refine Seg.step rfl rfl (Yd.move rfl) ?_
        (refine Seg.call rfl rfl (own_of rfl) rfl hc3 ?_; rintro _ w141 ⟨⟨an', cn', ar', cr', rfl, hvn', hvr'⟩, hE141⟩)
        replace hE := Ext.trans hE hE141
        replace hE0 := Ext.trans hE0 hE141
        replace h0 := h0.ext hE141
        replace ho := ho.ext hE141
        replace hB4 := hB4.ext hE141
        replace hB5 := hB5.ext hE141
        replace hBa := hBa.ext hE141
        replace hvn := hvn.ext hE141
        replace hvr := hvr.ext hE141
        refine Seg.step rfl rfl (Yd.move rfl) ?_
        refine Seg.step rfl rfl (Yd.extract rfl rfl) ?_
        refine Seg.step rfl rfl (Yd.extract rfl rfl) ?_
        refine Seg.alloc rfl rfl rfl (fun w145 b145 hE145 hB145 hb145 => ?_)
        have hlt145_0 := Nat.le_trans hE141.size hb145
        have hlt145_1 := Nat.le_trans hE.size hb145
        have hlt145_2 := Nat.le_trans hE0.size hb145
        have hlt145_3 := Nat.lt_of_lt_of_le hB4.lt hb145
        have hlt145_4 := Nat.lt_of_lt_of_le hB5.lt hb145
        have hlt145_5 := Nat.lt_of_lt_of_le hBa.lt hb145
        replace hE141 := Ext.trans hE141 hE145
        replace hvn' := hvn'.ext hE145
        replace hvr' := hvr'.ext hE145
        replace hE := Ext.trans hE hE145
        replace hE0 := Ext.trans hE0 hE145
        replace h0 := h0.ext hE145
        replace ho := ho.ext hE145
        replace hB4 := hB4.ext hE145
        replace hB5 := hB5.ext hE145
        replace hBa := hBa.ext hE145
        replace hvn := hvn.ext hE145
        replace hvr := hvr.ext hE145
        refine Seg.storeN rfl rfl rfl rfl hB145 rfl (by first | assumption | exact List.all_eq_true.1 rfl) (fun w146 hW146 hB146 => ?_)
        clear hB145
        replace hE145 := Ext.wr' hE145 hW146 (by omega)
        replace hE141 := Ext.wr' hE141 hW146 (by omega)
        replace hvn' := hvn'.wr hW146 (by omega)
        replace hvr' := hvr'.wr hW146 (by omega)
        replace hE := Ext.wr' hE hW146 (by omega)
        replace hE0 := Ext.wr' hE0 hW146 (by omega)
        replace hB4 := hB4.wr hW146 (by omega)
        replace hB5 := hB5.wr hW146 (by omega)
        replace hBa := hBa.wr hW146 (by omega)
        replace hvn := hvn.wr hW146 (by omega)
        replace hvr := hvr.wr hW146 (by omega)
        refine Seg.step rfl rfl (Yd.assign rfl) ?_
        refine Seg.nil ?_
        refine At.then_ ?_
        refine Cd.seq ?_
        refine Cd.region ?_
        refine Seg.step rfl rfl (Yd.move rfl) ?_
        refine Seg.step rfl rfl (Yd.move rfl) ?_
        refine Seg.step rfl rfl (Yd.neq rfl rfl) ?_
        refine Seg.step rfl rfl (Yd.move rfl) ?_
        refine Seg.gsplitp rfl rfl (fun h156 => ?_) (fun h156 => ?_)
        · exfalso; omega
        · refine Seg.step rfl rfl (Yd.fieldAddr rfl rfl) ?_
          refine Seg.step rfl rfl (Yd.load1 rfl rfl (hBa.row _ _ rfl)) ?_
          refine Seg.step rfl rfl (Yd.fieldAddr rfl rfl) ?_
          refine Seg.step rfl rfl (Yd.load1 rfl rfl (hB146.row _ _ rfl)) ?_
          (refine Seg.call rfl rfl (own_of rfl) rfl (exact_any nm nm _ _ _ hvn.1 hvn'.1 (by have := honf.1; omega)) ?_; rintro _ w162 ⟨rfl, hE162⟩)
          replace hW146 := Wr.trans hW146 (Ext.wr hE162 _)
          replace hB146 := hB146.ext hE162
          replace hE145 := Ext.trans hE145 hE162
          replace hE141 := Ext.trans hE141 hE162
          replace hvn' := hvn'.ext hE162
          replace hvr' := hvr'.ext hE162
          replace hE := Ext.trans hE hE162
          replace hE0 := Ext.trans hE0 hE162
          replace hB4 := hB4.ext hE162
          replace hB5 := hB5.ext hE162
          replace hBa := hBa.ext hE162
          replace hvn := hvn.ext hE162
          replace hvr := hvr.ext hE162
          refine Seg.step rfl rfl (Yd.notp rfl) ?_
          refine Seg.step rfl rfl (Yd.pickF rfl rfl) ?_
          refine Seg.step rfl rfl (Yd.move rfl) ?_
          refine Seg.gsplitp rfl rfl (fun h166 => ?_) (fun h166 => ?_)
          · refine Seg.skip rfl rfl ?_
            refine Seg.skip rfl rfl ?_
            refine Seg.skip rfl rfl ?_
            refine Seg.skip rfl rfl ?_
            refine Seg.skip rfl rfl ?_
            refine Seg.skip rfl rfl ?_
            refine Seg.step rfl rfl (Yd.pickT rfl rfl) ?_
            refine Seg.step rfl rfl (Yd.move rfl) ?_
            refine Seg.skip rfl rfl ?_
            refine Seg.skip rfl rfl ?_
            refine Seg.skip rfl rfl ?_
            refine Seg.skip rfl rfl ?_
            refine Seg.skip rfl rfl ?_
            refine Seg.step rfl rfl (Yd.pickT rfl rfl) ?_
            refine Seg.step rfl rfl (Yd.move rfl) ?_
            refine Seg.skip rfl rfl ?_
            refine Seg.skip rfl rfl ?_
            refine Seg.skip rfl rfl ?_
            refine Seg.skip rfl rfl ?_
            refine Seg.skip rfl rfl ?_
            refine Seg.step rfl rfl (Yd.pickT rfl rfl) ?_
            refine Seg.nil ?_
            refine At.then_ ?_
            refine Cd.condT rfl ?_
            refine Cd.seq ?_
            refine Cd.region ?_
            refine Seg.step rfl rfl (Yd.assign rfl) ?_
            refine Seg.nil ?_
            refine At.then_ ?_
            refine Cd.ret ?_
            refine At.blk_ret ?_
            refine At.then_ret ?_
            refine At.then_ret ?_
            refine At.blk_ret ?_
            refine At.then_ret ?_
            exact absurd rfl (by assumption : ¬ nm = nm)
          · refine Seg.step rfl rfl (Yd.fieldAddr rfl rfl) ?_
            refine Seg.step rfl rfl (Yd.load1 rfl rfl (hBa.row _ _ rfl)) ?_
            refine Seg.step rfl rfl (Yd.fieldAddr rfl rfl) ?_
            refine Seg.step rfl rfl (Yd.load1 rfl rfl (hB146.row _ _ rfl)) ?_
            (refine Seg.call rfl rfl (own_of rfl) rfl (sameRRs R R _ _ _ ⟨hvr.1, fun r hr => (hrw r (hom r hr)).ext hE0⟩ ⟨hvr'.1, fun r hr => (hrw r (hom r hr)).ext hE0⟩ hfR hwR hwR (by omega)) ?_; rintro _ w209 ⟨⟨bb, rfl, kk⟩, hE209⟩; obtain rfl : bb = true := kk.2 rfl)
            replace hE162 := Ext.trans hE162 hE209
            replace hW146 := Wr.trans hW146 (Ext.wr hE209 _)
            replace hB146 := hB146.ext hE209
            replace hE145 := Ext.trans hE145 hE209
            replace hE141 := Ext.trans hE141 hE209
            replace hvn' := hvn'.ext hE209
            replace hvr' := hvr'.ext hE209
            replace hE := Ext.trans hE hE209
            replace hE0 := Ext.trans hE0 hE209
            replace hB4 := hB4.ext hE209
            replace hB5 := hB5.ext hE209
            replace hBa := hBa.ext hE209
            replace hvn := hvn.ext hE209
            replace hvr := hvr.ext hE209
            refine Seg.step rfl rfl (Yd.not rfl) ?_
            refine Seg.step rfl rfl (Yd.pickF rfl rfl) ?_
            refine Seg.step rfl rfl (Yd.move rfl) ?_
            refine Seg.step rfl rfl (Yd.fieldAddr rfl rfl) ?_
            refine Seg.step rfl rfl (Yd.load1 rfl rfl (hBa.row _ _ rfl)) ?_
            refine Seg.step rfl rfl (Yd.fieldAddr rfl rfl) ?_
            refine Seg.step rfl rfl (Yd.load1 rfl rfl (hB146.row _ _ rfl)) ?_
            refine Seg.step rfl rfl (Yd.neq rfl rfl) ?_
            refine Seg.step rfl rfl (Yd.pickF rfl rfl) ?_
            refine Seg.step rfl rfl (Yd.move rfl) ?_
            refine Seg.gsplitp rfl rfl (fun h220 => ?_) (fun h220 => ?_)
            · exfalso; omega
            · refine Seg.step rfl rfl (Yd.fieldAddr rfl rfl) ?_
              refine Seg.step rfl rfl (Yd.load1 rfl rfl (hBa.row _ _ rfl)) ?_
              refine Seg.step rfl rfl (Yd.fieldAddr rfl rfl) ?_
              refine Seg.step rfl rfl (Yd.load1 rfl rfl (hB146.row _ _ rfl)) ?_
              refine Seg.step rfl rfl (Yd.neq rfl rfl) ?_
              refine Seg.step rfl rfl (Yd.pickF rfl rfl) ?_
              refine Seg.nil ?_
              refine At.then_ ?_
              refine Cd.condk rfl (fun h230 => ?_) (fun h230 => ?_)
              · exfalso; omega
              · refine Cd.skip ?_
                refine At.blk ?_
                refine At.then_ ?_
                refine Cd.region ?_
                refine Seg.step rfl rfl (Yd.move rfl) ?_
                refine Seg.step rfl rfl (Yd.addI rfl rfl (by omega)) ?_
                refine Seg.step rfl rfl (Yd.assign rfl) ?_
                refine Seg.nil ?_
                exact At.round (i + 1) (.cons rfl (.cons rfl (.cons rfl (.cons rfl (.cons rfl (.cons rfl (.nil _))))))) ⟨by omega, hE⟩ (by show _ - _ < _ - _; omega)
      · obtain rfl : i = rs.length + 1 := by omega
        refine Cd.seq ?_
        refine Cd.seq ?_
        refine Cd.region ?_
        refine Seg.step rfl rfl (Yd.move rfl) ?_
        refine Seg.step rfl rfl (Yd.move rfl) ?_
        refine Seg.step rfl rfl (Yd.lenS rfl rfl) ?_
        refine Seg.step rfl rfl (Yd.leq rfl rfl) ?_
        refine Seg.nil ?_
        refine At.then_ ?_
        refine Cd.condk rfl (fun h125 => ?_) (fun h125 => ?_)
        · exfalso; omega
        · refine Cd.exit ?_
          refine At.then_exit ?_
          refine At.then_exit ?_
          refine At.blk_same ?_
          refine At.then_ ?_
          refine Cd.seq ?_
          refine Cd.region ?_
          refine Seg.step rfl rfl (Yd.assign rfl) ?_
          refine Seg.nil ?_
          refine At.then_ ?_
          refine Cd.ret ?_
          exact At.ret Try.results4 (.tmp rfl .nil) ⟨rfl, hE0⟩
end Go.Proofs.Ytidhelgoopdloaa
