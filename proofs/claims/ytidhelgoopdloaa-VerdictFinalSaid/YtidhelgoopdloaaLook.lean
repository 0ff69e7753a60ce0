/- chain.look and the reference's Of: what they pick; the walks. -/
import Derived.Test.YtidhelgoopdloaaRec
namespace Go.Proofs.Ytidhelgoopdloaa
open Go Go.RowKit
abbrev Name := List (List UInt8)
def Picks (qt qc : Int) (n : Name) (r : Rec) : Prop := r.ty = qt ∧ r.cl = qc ∧ lowN r.nm = lowN n
instance (qt qc : Int) (n : Name) (r : Rec) : Decidable (Picks qt qc n r) := by unfold Picks; infer_instance
def recsOf (qt qc : Int) (n : Name) (rs : List Rec) : List Rec := rs.filter (fun r => decide (Picks qt qc n r))
theorem recs_skip {qt qc : Int} {n : Name} {rs : List Rec} {i : Nat} {r : Rec} (hr : rs[i]? = some r) (h : ¬ Picks qt qc n r) : recsOf qt qc n (rs.take (i + 1)) = recsOf qt qc n (rs.take i) := by
  obtain ⟨h1, h2⟩ := List.getElem?_eq_some_iff.1 hr
  rw [List.take_succ_eq_append_getElem h1, recsOf, List.filter_append, h2]
  simp [h, recsOf]
theorem recs_take {qt qc : Int} {n : Name} {rs : List Rec} {i : Nat} {r : Rec} (hr : rs[i]? = some r) (h : Picks qt qc n r) : recsOf qt qc n (rs.take (i + 1)) = recsOf qt qc n (rs.take i) ++ [r] := by
  obtain ⟨h1, h2⟩ := List.getElem?_eq_some_iff.1 hr
  rw [List.take_succ_eq_append_getElem h1, recsOf, List.filter_append, h2]
  simp [h, recsOf]
theorem recsOf_le (qt qc : Int) (n : Name) (rs : List Rec) : (recsOf qt qc n rs).length ≤ rs.length := List.length_filter_le _ _
theorem recsV_one (r : Rec) : recsV [r] = r.cells := by simp [recsV]
theorem name_one {w : World} {v : Value} {xs : Name} (h : NameAt w v xs) : v.oneCell' = true := by
  obtain ⟨ao, c, rfl, _⟩ := h
  rfl
theorem rec_one {w : World} {r : Rec} (h : RecAt w r) : ∀ c ∈ r.cells, c.oneCell' = true := by
  have := recs_one [r] (fun x hx => by cases List.mem_singleton.1 hx; exact ⟨name_one h.1, name_one h.2.1, name_one h.2.2⟩)
  rwa [recsV_one] at this
theorem own_recs {w : World} {base : Nat} {v : Value} {rs : List Rec} {m : Nat} (h : w.ownsRow base 37 33 v m (recsV rs)) (hm : m = rs.length) (hr : ∀ r ∈ rs, RecAt w r) : RecsAt w v rs := ⟨by rw [← hm]; exact own_sl h, hr⟩
/-- Records in a slice of one's own, its block below N. -/
def Own33 (w : World) (base N : Nat) (v : Value) (rs : List Rec) : Prop := w.ownsRow base 37 33 v rs.length (recsV rs) ∧ ∀ p, v.ownBlock = some p → p < N
theorem Own33.ext {w w' : World} {base N : Nat} {v : Value} {rs : List Rec} (h : Own33 w base N v rs) (hE : Ext w w') : Own33 w' base N v rs := ⟨own_ext h.1 hE, h.2⟩
theorem Own33.wr {w w' : World} {base N b : Nat} {v : Value} {rs : List Rec} (h : Own33 w base N v rs) (hg : Wr b w w') (hb : N ≤ b) : Own33 w' base N v rs := ⟨own_wr h.1 hg (fun e => by have := h.2 _ e; omega), h.2⟩
theorem own_lt {w : World} {base e k m : Nat} {v : Value} {cs : List Value} (h : w.ownsRow base e k v m cs) : ∀ p, v.ownBlock = some p → p < w.heap.size := by
  intro p hp
  obtain ⟨_, h2⟩ := h
  rcases h2 with ⟨rfl, rfl⟩ | ⟨g, cap, cur, rfl, _, hh, _⟩
  · cases hp
  · cases hp
    rcases Nat.lt_or_ge g w.heap.size with h' | h'
    · exact h'
    · simp [Array.getElem?_eq_none h'] at hh
theorem Own33.snoc {w : World} {base : Nat} {v : Value} {ps rs : List Rec} {r : Rec} (h : w.ownsRow base 37 33 v (ps.length + 1) (recsV ps ++ r.cells)) (he : rs = ps ++ [r]) : Own33 w base w.heap.size v rs := by
  subst he
  refine ⟨?_, own_lt h⟩
  rw [recsV_append, recsV_one, List.length_append]
  exact h
theorem Own33.up {w : World} {base N N' : Nat} {v : Value} {rs rs' : List Rec} (h : Own33 w base N v rs) (hN : N ≤ N') (he : rs' = rs) : Own33 w base N' v rs' := by
  subst he
  exact ⟨h.1, fun p hp => Nat.lt_of_lt_of_le (h.2 p hp) hN⟩
theorem Own33.nil (w : World) (base : Nat) : Own33 w base w.heap.size (.slice none 0 0) [] := ⟨World.ownsRow_nil _ _ _ _, fun p hp => by cases hp⟩

theorem of_any (rs : List Rec) (n : Name) (v0 v1 : Value) (kind cls : Int) (w : World) (h0 : RecsAt w v0 rs) (h1 : NameAt w v1 n) (hf : ∀ r ∈ rs, FitR r) (hn : Fit n) (hl : rs.length ≤ 1000) :
    Ret Try.prog 28 #[v0, v1, .int .i64 kind, .int .i64 cls] w fun v w' => RecsAt w' v (recsOf kind cls n rs) ∧ Ext w w' := by
  have hE0 := Ext.refl w
  obtain ⟨⟨ao, c, rfl, hl0, hr0, hz0⟩, hrec⟩ := h0
  refine Ret.body Try.func28 rfl Try.ntmps28 rfl ?_
  refine Cd.seq ?_
  refine Cd.region ?_
  refine Seg.step rfl rfl (Yd.assign rfl) ?_
  refine Seg.nil ?_
  refine At.then_ ?_
  refine Cd.seq ?_
  refine Cd.region ?_
  refine Seg.step rfl rfl (Yd.assign rfl) ?_
  refine Seg.nil ?_
  refine At.then_ ?_
  refine Cd.seq ?_
  refine Cd.seq ?_
  refine Cd.region ?_
  refine Seg.step rfl rfl (Yd.assign rfl) ?_
  refine Seg.nil ?_
  refine At.then_ ?_
  refine Cd.block ?_
  refine Cd.loop (σ := Nat × Value) (fun s => [(0, .slice ao rs.length c), (1, v1), (2, .int .i64 kind), (3, .int .i64 cls), (9, s.2), (10, .int .i64 s.1)])
    (fun s w' => s.1 ≤ rs.length ∧ Own33 w' w.heap.size w'.heap.size s.2 (recsOf kind cls n (rs.take s.1)) ∧ Ext w w') (fun s => rs.length - s.1) (0, .slice none 0 0) (.cons rfl (.cons rfl (.cons rfl (.cons rfl (.cons rfl (.cons rfl (.nil _)))))))
    ⟨Nat.zero_le _, Own33.nil _ _, hE0⟩ ?_
  clear hE0
  rintro ⟨i, v⟩ w0 ⟨hi, hO, hE0⟩
  simp only at hi hO ⊢
  by_cases hlt : i < rs.length
  · obtain ⟨a, rfl⟩ : ∃ a, ao = some a := by
      cases ao with
      | none => have := hz0 rfl; omega
      | some a => exact ⟨a, rfl⟩
    obtain ⟨r, hri⟩ : ∃ r, rs[i]? = some r := ⟨_, List.getElem?_eq_getElem hlt⟩
    have hmem := List.mem_of_getElem? hri
    have hrow := recs_part (hr0 a rfl) hri
    have hone := rec_one (hrec r hmem)
    have hfr := hf r hmem
    have hle := Nat.le_trans (recsOf_le kind cls n (rs.take i)) (List.length_take_le i rs)
    have hsz := Ext.refl w0
    refine Cd.seq ?_
    refine Cd.seq ?_
    refine Cd.region ?_
    refine Seg.step rfl rfl (Yd.move rfl) ?_
    refine Seg.step rfl rfl (Yd.move rfl) ?_
    refine Seg.step rfl rfl (Yd.lenS rfl rfl) ?_
    refine Seg.step rfl rfl (Yd.lss rfl rfl) ?_
    refine Seg.nil ?_
    refine At.then_ ?_
    refine Cd.condk rfl (fun h11 => ?_) (fun h11 => ?_)
    · refine Cd.skip ?_
      refine At.then_ ?_
      refine Cd.seq ?_
      refine Cd.block ?_
      refine Cd.seq ?_
      refine Cd.region ?_
      refine Seg.step rfl rfl (Yd.move rfl) ?_
      refine Seg.step rfl rfl (Yd.move rfl) ?_
      refine Seg.step rfl rfl (Yd.indexAddr rfl rfl rfl (NatOf.cast _) (by omega)) ?_
      refine Seg.step rfl rfl (Yd.fieldAddr rfl rfl) ?_
      refine Seg.step rfl rfl (Yd.load1 rfl rfl ((hrow.ext hE0) _ _ rfl)) ?_
      refine Seg.step rfl rfl (Yd.move rfl) ?_
      refine Seg.step rfl rfl (Yd.eql rfl rfl) ?_
      refine Seg.step rfl rfl (Yd.move rfl) ?_
      refine Seg.gsplitp rfl rfl (fun h27 => ?_) (fun h27 => ?_)
      · refine Seg.step rfl rfl (Yd.move rfl) ?_
        refine Seg.step rfl rfl (Yd.move rfl) ?_
        refine Seg.step rfl rfl (Yd.indexAddr rfl rfl rfl (NatOf.cast _) (by omega)) ?_
        refine Seg.step rfl rfl (Yd.fieldAddr rfl rfl) ?_
        refine Seg.step rfl rfl (Yd.load1 rfl rfl ((hrow.ext hE0) _ _ rfl)) ?_
        refine Seg.step rfl rfl (Yd.move rfl) ?_
        refine Seg.step rfl rfl (Yd.eql rfl rfl) ?_
        refine Seg.step rfl rfl (Yd.pickT rfl rfl) ?_
        refine Seg.step rfl rfl (Yd.move rfl) ?_
        refine Seg.gsplitp rfl rfl (fun h38 => ?_) (fun h38 => ?_)
        · refine Seg.step rfl rfl (Yd.move rfl) ?_
          refine Seg.step rfl rfl (Yd.move rfl) ?_
          refine Seg.step rfl rfl (Yd.indexAddr rfl rfl rfl (NatOf.cast _) (by omega)) ?_
          refine Seg.step rfl rfl (Yd.fieldAddr rfl rfl) ?_
          refine Seg.step rfl rfl (Yd.load1 rfl rfl ((hrow.ext hE0) _ _ rfl)) ?_
          refine Seg.step rfl rfl (Yd.move rfl) ?_
          (refine Seg.call rfl rfl (own_of rfl) rfl (same_any r.nm n r.vn v1 _ ((hrec r hmem).ext hE0).1 (h1.ext hE0) hfr.1 hn) ?_; rintro _ w46 ⟨rfl, hE46⟩)
          replace hO := hO.ext hE46
          replace hE0 := Ext.trans hE0 hE46
          replace hsz := Ext.trans hsz hE46
          refine Seg.step rfl rfl (Yd.pickT rfl rfl) ?_
          refine Seg.nil ?_
          refine At.then_ ?_
          refine Cd.condk rfl (fun h50 => ?_) (fun h50 => ?_)
          · refine Cd.region ?_
            refine Seg.step rfl rfl (Yd.move rfl) ?_
            refine Seg.step rfl rfl (Yd.move rfl) ?_
            refine Seg.step rfl rfl (Yd.move rfl) ?_
            refine Seg.step rfl rfl (Yd.indexAddr rfl rfl rfl (NatOf.cast _) (by omega)) ?_
            refine Seg.step rfl rfl (Yd.loadN rfl rfl rfl (hrow.ext hE0)) ?_
            refine Seg.buildSlice rfl rfl rfl rfl rfl rfl rfl rfl (fun w58 b58 hE58 hB58 hb58 hO58 => ?_)
            have hlt58_0 := Nat.le_trans hE46.size hb58
            have hlt58_1 := Nat.le_trans hE0.size hb58
            have hlt58_2 := Nat.le_trans hsz.size hb58
            replace hE46 := Ext.trans hE46 hE58
            replace hO := hO.ext hE58
            replace hE0 := Ext.trans hE0 hE58
            replace hsz := Ext.trans hsz hE58
            (refine Seg.append (news := r.cells) (m' := 1) rfl rfl rfl rfl rfl rfl rfl rfl rfl hO.1 (own_single hO58 (by rfl)) hone (Below.size hE0) (by omega) rfl (fun v59 w59 hN59 hG59 _ => ?_); replace hE0 := hE0.own hO.1 (Nat.le_refl _) hG59)
            refine Seg.step rfl rfl (Yd.assign rfl) ?_
            refine Seg.nil ?_
            refine At.blk ?_
            refine At.then_ ?_
            refine Cd.region ?_
            refine Seg.step rfl rfl (Yd.move rfl) ?_
            refine Seg.step rfl rfl (Yd.addI rfl rfl (by omega)) ?_
            refine Seg.step rfl rfl (Yd.assign rfl) ?_
            refine Seg.nil ?_
            exact At.round (i + 1, _) (.cons rfl (.cons rfl (.cons rfl (.cons rfl (.cons rfl (.cons rfl (.nil _))))))) ⟨by show _ + _ ≤ _; omega, Own33.snoc (by assumption) (recs_take hri ⟨by assumption, by assumption, by assumption⟩), hE0⟩ (by show _ - _ < _ - _; omega)
          · refine Cd.skip ?_
            refine At.blk ?_
            refine At.then_ ?_
            refine Cd.region ?_
            refine Seg.step rfl rfl (Yd.move rfl) ?_
            refine Seg.step rfl rfl (Yd.addI rfl rfl (by omega)) ?_
            refine Seg.step rfl rfl (Yd.assign rfl) ?_
            refine Seg.nil ?_
            exact At.round (i + 1, _) (.cons rfl (.cons rfl (.cons rfl (.cons rfl (.cons rfl (.cons rfl (.nil _))))))) ⟨by show _ + _ ≤ _; omega, hO.up hsz.size (recs_skip hri (fun h => by first | exact absurd h.1 (by assumption) | exact absurd h.2.1 (by assumption) | exact absurd h.2.2 (by assumption))), hE0⟩ (by show _ - _ < _ - _; omega)
        · refine Seg.skip rfl rfl ?_
          refine Seg.skip rfl rfl ?_
          refine Seg.skip rfl rfl ?_
          refine Seg.skip rfl rfl ?_
          refine Seg.skip rfl rfl ?_
          refine Seg.skip rfl rfl ?_
          refine Seg.skip rfl rfl ?_
          refine Seg.step rfl rfl (Yd.pickF rfl rfl) ?_
          refine Seg.nil ?_
          refine At.then_ ?_
          refine Cd.condF rfl ?_
          refine Cd.skip ?_
          refine At.blk ?_
          refine At.then_ ?_
          refine Cd.region ?_
          refine Seg.step rfl rfl (Yd.move rfl) ?_
          refine Seg.step rfl rfl (Yd.addI rfl rfl (by omega)) ?_
          refine Seg.step rfl rfl (Yd.assign rfl) ?_
          refine Seg.nil ?_
          exact At.round (i + 1, _) (.cons rfl (.cons rfl (.cons rfl (.cons rfl (.cons rfl (.cons rfl (.nil _))))))) ⟨by show _ + _ ≤ _; omega, hO.up hsz.size (recs_skip hri (fun h => by first | exact absurd h.1 (by assumption) | exact absurd h.2.1 (by assumption) | exact absurd h.2.2 (by assumption))), hE0⟩ (by show _ - _ < _ - _; omega)
      · refine Seg.skip rfl rfl ?_
        refine Seg.skip rfl rfl ?_
        refine Seg.skip rfl rfl ?_
        refine Seg.skip rfl rfl ?_
        refine Seg.skip rfl rfl ?_
        refine Seg.skip rfl rfl ?_
        refine Seg.skip rfl rfl ?_
        refine Seg.step rfl rfl (Yd.pickF rfl rfl) ?_
        refine Seg.step rfl rfl (Yd.move rfl) ?_
        refine Seg.skip rfl rfl ?_
        refine Seg.skip rfl rfl ?_
        refine Seg.skip rfl rfl ?_
        refine Seg.skip rfl rfl ?_
        refine Seg.skip rfl rfl ?_
        refine Seg.skip rfl rfl ?_
        refine Seg.skip rfl rfl ?_
        refine Seg.step rfl rfl (Yd.pickF rfl rfl) ?_
        refine Seg.nil ?_
        refine At.then_ ?_
        refine Cd.condF rfl ?_
        refine Cd.skip ?_
        refine At.blk ?_
        refine At.then_ ?_
        refine Cd.region ?_
        refine Seg.step rfl rfl (Yd.move rfl) ?_
        refine Seg.step rfl rfl (Yd.addI rfl rfl (by omega)) ?_
        refine Seg.step rfl rfl (Yd.assign rfl) ?_
        refine Seg.nil ?_
        exact At.round (i + 1, _) (.cons rfl (.cons rfl (.cons rfl (.cons rfl (.cons rfl (.cons rfl (.nil _))))))) ⟨by show _ + _ ≤ _; omega, hO.up hsz.size (recs_skip hri (fun h => by first | exact absurd h.1 (by assumption) | exact absurd h.2.1 (by assumption) | exact absurd h.2.2 (by assumption))), hE0⟩ (by show _ - _ < _ - _; omega)
    · exfalso; omega
  · obtain rfl : i = rs.length := by omega
    rw [List.take_length] at hO
    refine Cd.seq ?_
    refine Cd.seq ?_
    refine Cd.region ?_
    refine Seg.step rfl rfl (Yd.move rfl) ?_
    refine Seg.step rfl rfl (Yd.move rfl) ?_
    refine Seg.step rfl rfl (Yd.lenS rfl rfl) ?_
    refine Seg.step rfl rfl (Yd.lss rfl rfl) ?_
    refine Seg.nil ?_
    refine At.then_ ?_
    refine Cd.condk rfl (fun h11 => ?_) (fun h11 => ?_)
    · exfalso; omega
    · refine Cd.exit ?_
      refine At.then_exit ?_
      refine At.then_exit ?_
      refine At.blk_same ?_
      refine At.then_ ?_
      refine Cd.seq ?_
      refine Cd.region ?_
      refine Seg.step rfl rfl (Yd.move rfl) ?_
      refine Seg.step rfl rfl (Yd.assign rfl) ?_
      refine Seg.nil ?_
      refine At.then_ ?_
      refine Cd.ret ?_
      exact At.ret Try.results28 (.tmp rfl .nil) ⟨own_recs hO.1 rfl (fun r hr => (hrec r (List.mem_filter.1 hr |>.1)).ext hE0), hE0⟩

def Links (qt qc : Int) (n : Name) (r : Rec) : Prop := r.ty ≠ qt ∧ r.ty = 5 ∧ r.cl = qc ∧ lowN r.nm = lowN n
instance (qt qc : Int) (n : Name) (r : Rec) : Decidable (Links qt qc n r) := by unfold Links; infer_instance
/-- Where the first link stands, of the first i records. -/
def linkTo (qt qc : Int) (n : Name) (rs : List Rec) : Nat → Int
  | 0 => -1
  | i + 1 => match rs[i]? with
    | some r => if Links qt qc n r ∧ linkTo qt qc n rs i < 0 then i else linkTo qt qc n rs i
    | none => linkTo qt qc n rs i
theorem link_take {qt qc : Int} {n : Name} {rs : List Rec} {i : Nat} {r : Rec} (hr : rs[i]? = some r) (h : Links qt qc n r) (h' : ¬ 0 ≤ linkTo qt qc n rs i) : linkTo qt qc n rs (i + 1) = i := by
  rw [linkTo, hr]
  exact if_pos ⟨h, by omega⟩
theorem link_skip {qt qc : Int} {n : Name} {rs : List Rec} {i : Nat} {r : Rec} (hr : rs[i]? = some r) (h : ¬ (Links qt qc n r ∧ ¬ 0 ≤ linkTo qt qc n rs i)) : linkTo qt qc n rs (i + 1) = linkTo qt qc n rs i := by
  rw [linkTo, hr]
  exact if_neg (fun ⟨h1, h2⟩ => h ⟨h1, by omega⟩)

theorem look_any (rs : List Rec) (n : Name) (v1 v2 vq : Value) (qt qc : Int) (w : World) (h0 : RecsAt w v2 rs) (h1 : NameAt w v1 n) (hf : ∀ r ∈ rs, FitR r) (hl : rs.length ≤ 1000) :
    Ret Try.prog 25 #[.agg #[vq, .int .i64 qt, .int .i64 qc], v1, v2] w fun v w' => (∃ vr, v = .tuple #[vr, .int .i64 (linkTo qt qc n rs rs.length)] ∧ RecsAt w' vr (recsOf qt qc n rs) ∧ Above w.heap.size vr) ∧ Ext w w' := by
  have hE0 := Ext.refl w
  obtain ⟨⟨ao, c, rfl, hl0, hr0, hz0⟩, hrec⟩ := h0
  refine Ret.body Try.func25 rfl Try.ntmps25 rfl ?_
  refine Cd.seq ?_
  refine Cd.region ?_
  refine Seg.box rfl rfl rfl (fun w4 b4 hE4 hB4 hb4 => ?_)
  have hlt4_0 := Nat.le_trans hE0.size hb4
  replace hE0 := Ext.trans hE0 hE4
  refine Seg.step rfl rfl (Yd.assign rfl) ?_
  refine Seg.step rfl rfl (Yd.assign rfl) ?_
  refine Seg.nil ?_
  refine At.then_ ?_
  refine Cd.seq ?_
  refine Cd.region ?_
  refine Seg.step rfl rfl (Yd.assign rfl) ?_
  refine Seg.nil ?_
  refine At.then_ ?_
  refine Cd.seq ?_
  refine Cd.region ?_
  refine Seg.step rfl rfl (Yd.assign rfl) ?_
  refine Seg.nil ?_
  refine At.then_ ?_
  refine Cd.seq ?_
  refine Cd.seq ?_
  refine Cd.region ?_
  refine Seg.step rfl rfl (Yd.move rfl) ?_
  refine Seg.step rfl rfl (Yd.lenS rfl rfl) ?_
  refine Seg.step rfl rfl (Yd.move rfl) ?_
  refine Seg.nil ?_
  refine At.then_ ?_
  refine Cd.block ?_
  refine Cd.loop (σ := Nat × Value × Int) (fun s => [(1, v1), (3, .pointer (some ⟨b4, 0, none⟩)), (8, s.2.1), (9, .int .i64 s.2.2), (12, .slice ao rs.length c), (13, .int .i64 rs.length), (14, .int .i64 s.1)])
    (fun s w' => s.1 ≤ rs.length ∧ Own33 w' w4.heap.size w'.heap.size s.2.1 (recsOf qt qc n (rs.take s.1)) ∧ s.2.2 = linkTo qt qc n rs s.1 ∧ Ext w4 w') (fun s => rs.length - s.1) (0, .slice none 0 0, -1) (.cons rfl (.cons rfl (.cons rfl (.cons rfl (.cons rfl (.cons rfl (.cons rfl (.nil _))))))))
    ⟨Nat.zero_le _, Own33.nil _ _, rfl, Ext.refl _⟩ ?_
  have hE4' := hE0
  clear hE0 hE4
  rintro ⟨i, v, z⟩ w0 ⟨hi, hO, hz, hE5⟩
  simp only at hi hO hz ⊢
  subst hz
  have hE0 := hE4'.trans hE5
  replace hB4 := hB4.ext hE5
  by_cases hlt : i < rs.length
  · obtain ⟨a, rfl⟩ : ∃ a, ao = some a := by
      cases ao with
      | none => have := hz0 rfl; omega
      | some a => exact ⟨a, rfl⟩
    obtain ⟨r, hri⟩ : ∃ r, rs[i]? = some r := ⟨_, List.getElem?_eq_getElem hlt⟩
    have hmem := List.mem_of_getElem? hri
    have hrow := recs_part (hr0 a rfl) hri
    have hone := rec_one (hrec r hmem)
    have hfr := hf r hmem
    have hle := Nat.le_trans (recsOf_le qt qc n (rs.take i)) (List.length_take_le i rs)
    have hsz := Ext.refl w0
    refine Cd.seq ?_
    refine Cd.region ?_
    refine Seg.step rfl rfl (Yd.lss rfl rfl) ?_
    refine Seg.nil ?_
    refine At.then_ ?_
    refine Cd.seq ?_
    refine Cd.condk rfl (fun h12 => ?_) (fun h12 => ?_)
    · refine Cd.skip ?_
      refine At.then_ ?_
      refine Cd.seq ?_
      refine Cd.block ?_
      refine Cd.seq ?_
      refine Cd.region ?_
      refine Seg.step rfl rfl (Yd.move rfl) ?_
      refine Seg.step rfl rfl (Yd.indexAddr rfl rfl rfl (NatOf.cast _) (by omega)) ?_
      refine Seg.step rfl rfl (Yd.loadN rfl rfl rfl (hrow.ext hE0)) ?_
      refine Seg.alloc rfl rfl rfl (fun w23 b23 hE23 hB23 hb23 => ?_)
      have hlt23_0 := Nat.le_trans hE5.size hb23
      have hlt23_1 := Nat.le_trans hE0.size hb23
      have hlt23_2 := Nat.lt_of_lt_of_le hB4.lt hb23
      have hlt23_3 := Nat.le_trans hsz.size hb23
      replace hO := hO.ext hE23
      replace hE5 := Ext.trans hE5 hE23
      replace hE0 := Ext.trans hE0 hE23
      replace hB4 := hB4.ext hE23
      replace hsz := Ext.trans hsz hE23
      refine Seg.step rfl rfl (Yd.assign rfl) ?_
      refine Seg.storeN rfl rfl rfl rfl hB23 rfl (by first | assumption | exact List.all_eq_true.1 rfl) (fun w25 hW25 hB25 => ?_)
      clear hB23
      replace hE23 := Ext.wr' hE23 hW25 (by omega)
      replace hO := hO.wr hW25 (by omega)
      replace hE5 := Ext.wr' hE5 hW25 (by omega)
      replace hE0 := Ext.wr' hE0 hW25 (by omega)
      replace hB4 := hB4.wr hW25 (by omega)
      replace hsz := Ext.wr' hsz hW25 (by omega)
      refine Seg.nil ?_
      refine At.then_ ?_
      refine Cd.seq ?_
      refine Cd.seq ?_
      refine Cd.region ?_
      refine Seg.step rfl rfl (Yd.fieldAddr rfl rfl) ?_
      refine Seg.step rfl rfl (Yd.load1 rfl rfl (hB25.row _ _ rfl)) ?_
      refine Seg.step rfl rfl (Yd.fieldAddr rfl rfl) ?_
      refine Seg.step rfl rfl (Yd.load1 rfl rfl (hB4.row _ _ rfl)) ?_
      refine Seg.step rfl rfl (Yd.neq rfl rfl) ?_
      refine Seg.step rfl rfl (Yd.move rfl) ?_
      refine Seg.gsplitp rfl rfl (fun h37 => ?_) (fun h37 => ?_)
      · refine Seg.skip rfl rfl ?_
        refine Seg.skip rfl rfl ?_
        refine Seg.skip rfl rfl ?_
        refine Seg.skip rfl rfl ?_
        refine Seg.skip rfl rfl ?_
        refine Seg.skip rfl rfl ?_
        refine Seg.skip rfl rfl ?_
        refine Seg.skip rfl rfl ?_
        refine Seg.skip rfl rfl ?_
        refine Seg.skip rfl rfl ?_
        refine Seg.skip rfl rfl ?_
        refine Seg.skip rfl rfl ?_
        refine Seg.skip rfl rfl ?_
        refine Seg.skip rfl rfl ?_
        refine Seg.step rfl rfl (Yd.pickT rfl rfl) ?_
        refine Seg.nil ?_
        refine At.then_ ?_
        refine Cd.condT rfl ?_
        refine Cd.exit ?_
        refine At.then_exit ?_
        refine At.blk_same ?_
        refine At.then_ ?_
        refine Cd.region ?_
        refine Seg.step rfl rfl (Yd.addI rfl rfl (by omega)) ?_
        refine Seg.step rfl rfl (Yd.move rfl) ?_
        refine Seg.nil ?_
        exact At.round (i + 1, _, _) (.cons rfl (.cons rfl (.cons rfl (.cons rfl (.cons rfl (.cons rfl (.cons rfl (.nil _)))))))) ⟨by show _ + _ ≤ _; omega, hO.up hsz.size (recs_skip hri (fun h => by first | exact absurd h.1 (by assumption) | exact absurd h.2.1 (by assumption) | exact absurd h.2.2 (by assumption))), (link_skip hri (fun h => by first | exact absurd h.1.2.1 (by assumption) | exact absurd h.1.2.2.1 (by assumption) | exact absurd h.1.2.2.2 (by assumption) | exact absurd (by assumption) h.2 | exact absurd (by assumption) h.1.1)).symm, hE5⟩ (by show _ - _ < _ - _; omega)
      · refine Seg.step rfl rfl (Yd.fieldAddr rfl rfl) ?_
        refine Seg.step rfl rfl (Yd.load1 rfl rfl (hB25.row _ _ rfl)) ?_
        refine Seg.step rfl rfl (Yd.fieldAddr rfl rfl) ?_
        refine Seg.step rfl rfl (Yd.load1 rfl rfl (hB4.row _ _ rfl)) ?_
        refine Seg.step rfl rfl (Yd.neq rfl rfl) ?_
        refine Seg.step rfl rfl (Yd.move rfl) ?_
        refine Seg.gsplitp rfl rfl (fun h73 => ?_) (fun h73 => ?_)
        · refine Seg.step rfl rfl (Yd.fieldAddr rfl rfl) ?_
          refine Seg.step rfl rfl (Yd.load1 rfl rfl (hB25.row _ _ rfl)) ?_
          refine Seg.step rfl rfl (Yd.neq rfl rfl) ?_
          refine Seg.step rfl rfl (Yd.move rfl) ?_
          refine Seg.gsplitp rfl rfl (fun h79 => ?_) (fun h79 => ?_)
          · refine Seg.skip rfl rfl ?_
            refine Seg.skip rfl rfl ?_
            refine Seg.step rfl rfl (Yd.pickT rfl rfl) ?_
            refine Seg.step rfl rfl (Yd.pickT rfl rfl) ?_
            refine Seg.step rfl rfl (Yd.pickF rfl rfl) ?_
            refine Seg.nil ?_
            refine At.then_ ?_
            refine Cd.condT rfl ?_
            refine Cd.exit ?_
            refine At.then_exit ?_
            refine At.blk_same ?_
            refine At.then_ ?_
            refine Cd.region ?_
            refine Seg.step rfl rfl (Yd.addI rfl rfl (by omega)) ?_
            refine Seg.step rfl rfl (Yd.move rfl) ?_
            refine Seg.nil ?_
            exact At.round (i + 1, _, _) (.cons rfl (.cons rfl (.cons rfl (.cons rfl (.cons rfl (.cons rfl (.cons rfl (.nil _)))))))) ⟨by show _ + _ ≤ _; omega, hO.up hsz.size (recs_skip hri (fun h => by first | exact absurd h.1 (by assumption) | exact absurd h.2.1 (by assumption) | exact absurd h.2.2 (by assumption))), (link_skip hri (fun h => by first | exact absurd h.1.2.1 (by assumption) | exact absurd h.1.2.2.1 (by assumption) | exact absurd h.1.2.2.2 (by assumption) | exact absurd (by assumption) h.2 | exact absurd (by assumption) h.1.1)).symm, hE5⟩ (by show _ - _ < _ - _; omega)
          · refine Seg.step rfl rfl (Yd.move rfl) ?_
            refine Seg.step rfl rfl (Yd.geq rfl rfl) ?_
            refine Seg.step rfl rfl (Yd.pickF rfl rfl) ?_
            refine Seg.step rfl rfl (Yd.pickT rfl rfl) ?_
            refine Seg.step rfl rfl (Yd.pickF rfl rfl) ?_
            refine Seg.nil ?_
            refine At.then_ ?_
            refine Cd.condk rfl (fun h106 => ?_) (fun h106 => ?_)
            · refine Cd.exit ?_
              refine At.then_exit ?_
              refine At.blk_same ?_
              refine At.then_ ?_
              refine Cd.region ?_
              refine Seg.step rfl rfl (Yd.addI rfl rfl (by omega)) ?_
              refine Seg.step rfl rfl (Yd.move rfl) ?_
              refine Seg.nil ?_
              exact At.round (i + 1, _, _) (.cons rfl (.cons rfl (.cons rfl (.cons rfl (.cons rfl (.cons rfl (.cons rfl (.nil _)))))))) ⟨by show _ + _ ≤ _; omega, hO.up hsz.size (recs_skip hri (fun h => by first | exact absurd h.1 (by assumption) | exact absurd h.2.1 (by assumption) | exact absurd h.2.2 (by assumption))), (link_skip hri (fun h => by first | exact absurd h.1.2.1 (by assumption) | exact absurd h.1.2.2.1 (by assumption) | exact absurd h.1.2.2.2 (by assumption) | exact absurd (by assumption) h.2 | exact absurd (by assumption) h.1.1)).symm, hE5⟩ (by show _ - _ < _ - _; omega)
            · refine Cd.skip ?_
              refine At.then_ ?_
              refine Cd.seq ?_
              refine Cd.seq ?_
              refine Cd.region ?_
              refine Seg.step rfl rfl (Yd.fieldAddr rfl rfl) ?_
              refine Seg.step rfl rfl (Yd.load1 rfl rfl (hB25.row _ _ rfl)) ?_
              refine Seg.step rfl rfl (Yd.move rfl) ?_
              (refine Seg.call rfl rfl (own_of rfl) rfl (dsame_any r.nm n r.vn v1 _ ((hrec r hmem).ext hE0).1 (h1.ext hE0) hfr.1) ?_; rintro _ w126 ⟨rfl, hE126⟩)
              replace hW25 := Wr.trans hW25 (Ext.wr hE126 _)
              replace hB25 := hB25.ext hE126
              replace hE23 := Ext.trans hE23 hE126
              replace hO := hO.ext hE126
              replace hE5 := Ext.trans hE5 hE126
              replace hE0 := Ext.trans hE0 hE126
              replace hB4 := hB4.ext hE126
              replace hsz := Ext.trans hsz hE126
              refine Seg.step rfl rfl (Yd.notp rfl) ?_
              refine Seg.nil ?_
              refine At.then_ ?_
              refine Cd.condk rfl (fun h130 => ?_) (fun h130 => ?_)
              · refine Cd.exit ?_
                refine At.then_exit ?_
                refine At.blk_same ?_
                refine At.then_ ?_
                refine Cd.region ?_
                refine Seg.step rfl rfl (Yd.addI rfl rfl (by omega)) ?_
                refine Seg.step rfl rfl (Yd.move rfl) ?_
                refine Seg.nil ?_
                exact At.round (i + 1, _, _) (.cons rfl (.cons rfl (.cons rfl (.cons rfl (.cons rfl (.cons rfl (.cons rfl (.nil _)))))))) ⟨by show _ + _ ≤ _; omega, hO.up hsz.size (recs_skip hri (fun h => by first | exact absurd h.1 (by assumption) | exact absurd h.2.1 (by assumption) | exact absurd h.2.2 (by assumption))), (link_skip hri (fun h => by first | exact absurd h.1.2.1 (by assumption) | exact absurd h.1.2.2.1 (by assumption) | exact absurd h.1.2.2.2 (by assumption) | exact absurd (by assumption) h.2 | exact absurd (by assumption) h.1.1)).symm, hE5⟩ (by show _ - _ < _ - _; omega)
              · refine Cd.skip ?_
                refine At.then_ ?_
                refine Cd.seq ?_
                refine Cd.region ?_
                refine Seg.step rfl rfl (Yd.fieldAddr rfl rfl) ?_
                refine Seg.step rfl rfl (Yd.load1 rfl rfl (hB25.row _ _ rfl)) ?_
                refine Seg.step rfl rfl (Yd.fieldAddr rfl rfl) ?_
                refine Seg.step rfl rfl (Yd.load1 rfl rfl (hB4.row _ _ rfl)) ?_
                refine Seg.step rfl rfl (Yd.eql rfl rfl) ?_
                refine Seg.nil ?_
                refine At.then_ ?_
                refine Cd.condk rfl (fun h153 => ?_) (fun h153 => ?_)
                · exfalso; omega
                · refine Cd.region ?_
                  refine Seg.step rfl rfl (Yd.move rfl) ?_
                  refine Seg.step rfl rfl (Yd.assign rfl) ?_
                  refine Seg.nil ?_
                  refine At.blk ?_
                  refine At.then_ ?_
                  refine Cd.region ?_
                  refine Seg.step rfl rfl (Yd.addI rfl rfl (by omega)) ?_
                  refine Seg.step rfl rfl (Yd.move rfl) ?_
                  refine Seg.nil ?_
                  exact At.round (i + 1, _, _) (.cons rfl (.cons rfl (.cons rfl (.cons rfl (.cons rfl (.cons rfl (.cons rfl (.nil _)))))))) ⟨by show _ + _ ≤ _; omega, hO.up hsz.size (recs_skip hri (fun h => by first | exact absurd h.1 (by assumption) | exact absurd h.2.1 (by assumption) | exact absurd h.2.2 (by assumption))), (link_take hri ⟨by assumption, Classical.not_not.1 (by assumption), Classical.not_not.1 (by assumption), Classical.not_not.1 (by assumption)⟩ (by assumption)).symm, hE5⟩ (by show _ - _ < _ - _; omega)
        · refine Seg.skip rfl rfl ?_
          refine Seg.skip rfl rfl ?_
          refine Seg.skip rfl rfl ?_
          refine Seg.skip rfl rfl ?_
          refine Seg.skip rfl rfl ?_
          refine Seg.skip rfl rfl ?_
          refine Seg.skip rfl rfl ?_
          refine Seg.step rfl rfl (Yd.pickF rfl rfl) ?_
          refine Seg.step rfl rfl (Yd.pickF rfl rfl) ?_
          refine Seg.nil ?_
          refine At.then_ ?_
          refine Cd.condF rfl ?_
          refine Cd.skip ?_
          refine At.then_ ?_
          refine Cd.seq ?_
          refine Cd.seq ?_
          refine Cd.region ?_
          refine Seg.step rfl rfl (Yd.fieldAddr rfl rfl) ?_
          refine Seg.step rfl rfl (Yd.load1 rfl rfl (hB25.row _ _ rfl)) ?_
          refine Seg.step rfl rfl (Yd.move rfl) ?_
          (refine Seg.call rfl rfl (own_of rfl) rfl (dsame_any r.nm n r.vn v1 _ ((hrec r hmem).ext hE0).1 (h1.ext hE0) hfr.1) ?_; rintro _ w187 ⟨rfl, hE187⟩)
          replace hW25 := Wr.trans hW25 (Ext.wr hE187 _)
          replace hB25 := hB25.ext hE187
          replace hE23 := Ext.trans hE23 hE187
          replace hO := hO.ext hE187
          replace hE5 := Ext.trans hE5 hE187
          replace hE0 := Ext.trans hE0 hE187
          replace hB4 := hB4.ext hE187
          replace hsz := Ext.trans hsz hE187
          refine Seg.step rfl rfl (Yd.notp rfl) ?_
          refine Seg.nil ?_
          refine At.then_ ?_
          refine Cd.condk rfl (fun h191 => ?_) (fun h191 => ?_)
          · refine Cd.exit ?_
            refine At.then_exit ?_
            refine At.blk_same ?_
            refine At.then_ ?_
            refine Cd.region ?_
            refine Seg.step rfl rfl (Yd.addI rfl rfl (by omega)) ?_
            refine Seg.step rfl rfl (Yd.move rfl) ?_
            refine Seg.nil ?_
            exact At.round (i + 1, _, _) (.cons rfl (.cons rfl (.cons rfl (.cons rfl (.cons rfl (.cons rfl (.cons rfl (.nil _)))))))) ⟨by show _ + _ ≤ _; omega, hO.up hsz.size (recs_skip hri (fun h => by first | exact absurd h.1 (by assumption) | exact absurd h.2.1 (by assumption) | exact absurd h.2.2 (by assumption))), (link_skip hri (fun h => by first | exact absurd h.1.2.1 (by assumption) | exact absurd h.1.2.2.1 (by assumption) | exact absurd h.1.2.2.2 (by assumption) | exact absurd (by assumption) h.2 | exact absurd (by assumption) h.1.1)).symm, hE5⟩ (by show _ - _ < _ - _; omega)
          · refine Cd.skip ?_
            refine At.then_ ?_
            refine Cd.seq ?_
            refine Cd.region ?_
            refine Seg.step rfl rfl (Yd.fieldAddr rfl rfl) ?_
            refine Seg.step rfl rfl (Yd.load1 rfl rfl (hB25.row _ _ rfl)) ?_
            refine Seg.step rfl rfl (Yd.fieldAddr rfl rfl) ?_
            refine Seg.step rfl rfl (Yd.load1 rfl rfl (hB4.row _ _ rfl)) ?_
            refine Seg.step rfl rfl (Yd.eql rfl rfl) ?_
            refine Seg.nil ?_
            refine At.then_ ?_
            refine Cd.condk rfl (fun h214 => ?_) (fun h214 => ?_)
            · refine Cd.region ?_
              refine Seg.step rfl rfl (Yd.move rfl) ?_
              refine Seg.step rfl rfl (Yd.loadN rfl rfl rfl hB25.row) ?_
              refine Seg.buildSlice rfl rfl rfl rfl rfl rfl rfl rfl (fun w219 b219 hE219 hB219 hb219 hO219 => ?_)
              have hlt219_0 := Nat.le_trans hE187.size hb219
              have hlt219_1 := Nat.lt_of_lt_of_le hB25.lt hb219
              have hlt219_2 := Nat.le_trans hE23.size hb219
              have hlt219_3 := Nat.le_trans hE5.size hb219
              have hlt219_4 := Nat.le_trans hE0.size hb219
              have hlt219_5 := Nat.lt_of_lt_of_le hB4.lt hb219
              have hlt219_6 := Nat.le_trans hsz.size hb219
              replace hE187 := Ext.trans hE187 hE219
              replace hW25 := Wr.trans hW25 (Ext.wr hE219 _)
              replace hB25 := hB25.ext hE219
              replace hE23 := Ext.trans hE23 hE219
              replace hO := hO.ext hE219
              replace hE5 := Ext.trans hE5 hE219
              replace hE0 := Ext.trans hE0 hE219
              replace hB4 := hB4.ext hE219
              replace hsz := Ext.trans hsz hE219
              (refine Seg.append (news := r.cells) (m' := 1) rfl rfl rfl rfl rfl rfl rfl rfl rfl hO.1 (own_single hO219 (by rfl)) hone (Below.size hE5) (by omega) rfl (fun v220 w220 hN220 hG220 _ => ?_); replace hE0 := hE0.own hO.1 hE4'.size hG220; replace hE5 := hE5.own hO.1 (Nat.le_refl _) hG220)
              refine Seg.step rfl rfl (Yd.assign rfl) ?_
              refine Seg.nil ?_
              refine At.blk ?_
              refine At.then_ ?_
              refine Cd.region ?_
              refine Seg.step rfl rfl (Yd.addI rfl rfl (by omega)) ?_
              refine Seg.step rfl rfl (Yd.move rfl) ?_
              refine Seg.nil ?_
              exact At.round (i + 1, _, _) (.cons rfl (.cons rfl (.cons rfl (.cons rfl (.cons rfl (.cons rfl (.cons rfl (.nil _)))))))) ⟨by show _ + _ ≤ _; omega, Own33.snoc (by assumption) (recs_take hri ⟨by assumption, Classical.not_not.1 (by assumption), Classical.not_not.1 (by assumption)⟩), (link_skip hri (fun h => absurd (by assumption : r.ty = qt) h.1.1)).symm, hE5⟩ (by show _ - _ < _ - _; omega)
            · exfalso; omega
    · exfalso; omega
  · obtain rfl : i = rs.length := by omega
    rw [List.take_length] at hO
    refine Cd.seq ?_
    refine Cd.region ?_
    refine Seg.step rfl rfl (Yd.lss rfl rfl) ?_
    refine Seg.nil ?_
    refine At.then_ ?_
    refine Cd.seq ?_
    refine Cd.condk rfl (fun h12 => ?_) (fun h12 => ?_)
    · exfalso; omega
    · refine Cd.exit ?_
      refine At.then_exit ?_
      refine At.then_exit ?_
      refine At.blk_same ?_
      refine At.then_ ?_
      refine Cd.seq ?_
      refine Cd.region ?_
      refine Seg.step rfl rfl (Yd.move rfl) ?_
      refine Seg.step rfl rfl (Yd.move rfl) ?_
      refine Seg.step rfl rfl (Yd.assign rfl) ?_
      refine Seg.step rfl rfl (Yd.assign rfl) ?_
      refine Seg.nil ?_
      refine At.then_ ?_
      refine Cd.ret ?_
      exact At.ret Try.results25 (.tmp rfl (.tmp rfl .nil)) ⟨⟨_, rfl, own_recs hO.1 rfl (fun r hr => (hrec r (List.mem_filter.1 hr |>.1)).ext hE0), (own_above hO.1).down hE4'.size⟩, hE0⟩
end Go.Proofs.Ytidhelgoopdloaa
