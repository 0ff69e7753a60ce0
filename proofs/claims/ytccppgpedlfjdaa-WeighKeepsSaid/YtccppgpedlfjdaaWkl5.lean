/- The law of weighed orders: the walk. -/
import Derived.Test.YtccppgpedlfjdaaWqf
import Derived.Test.YtccppgpedlfjdaaWpl
import Derived.Test.YtccppgpedlfjdaaWko
namespace Go.Proofs.Ytccppgpedlfjdaa
open Go Go.RowKit
/-- The targets of the first priority p: those without a weight (0), and the others (1). -/
def selK (p : Int) (n : Nat) (x : El) : Bool := decide (key x = 2 * p + n)
def accK (es : List El) (p : Int) (n : Nat) : List El := (List.range n).flatMap fun m => es.filter (selK p m)
def fsK (es : List El) (p : Int) (n i : Nat) : List El := accK es p n ++ (es.take i).filter (selK p n)
theorem fsK_zero (es : List El) (p : Int) (n : Nat) : fsK es p n 0 = accK es p n := by simp [fsK]
theorem fsK_all (es : List El) (p : Int) (n : Nat) : fsK es p n es.length = accK es p (n + 1) := by
  unfold fsK accK
  rw [List.range_succ, List.flatMap_append, List.take_length]
  simp
theorem fsK_hit {es : List El} {p : Int} {n i : Nat} {x : El} (h : es[i]? = some x) (hs : selK p n x = true) : fsK es p n (i + 1) = fsK es p n i ++ [x] := by
  unfold fsK
  rw [List.take_add_one, h, List.filter_append, List.append_assoc]
  simp [hs]
theorem fsK_miss {es : List El} {p : Int} {n i : Nat} {x : El} (h : es[i]? = some x) (hs : ¬ selK p n x = true) : fsK es p n (i + 1) = fsK es p n i := by
  unfold fsK
  rw [List.take_add_one, h, List.filter_append]
  simp [hs]
theorem accK_two (es : List El) (p : Int) : accK es p 2 = firstL es p := by
  unfold accK firstL
  rw [show List.range 2 = [0, 1] from rfl]
  simp only [List.flatMap_cons, List.flatMap_nil, List.append_nil]
  congr 1
  apply List.filter_congr
  intro x _
  simp [selK]
theorem fsK_len {es : List El} {p : Int} {n i : Nat} (hn : n ≤ 1) : (fsK es p n i).length ≤ 2 * es.length := by
  unfold fsK
  rw [List.length_append]
  have h1 : ((es.take i).filter (selK p n)).length ≤ es.length := Nat.le_trans (List.length_filter_le _ _) (by rw [List.length_take]; omega)
  have h2 : (accK es p n).length ≤ es.length := by
    unfold accK
    rcases Nat.lt_or_ge n 1 with h | h
    · obtain rfl : n = 0 := by omega
      simp
    · obtain rfl : n = 1 := by omega
      rw [show List.range 1 = [0] from rfl]
      simpa using List.length_filter_le (selK p 0) es
  omega
theorem selK_zero {p : Int} {x : El} : selK p 0 x = true ↔ x.1.pri = p ∧ x.1.wt ≤ 0 := by
  unfold selK key heldI
  rw [decide_eq_true_iff]
  omega
theorem selK_one {p : Int} {x : El} : selK p 1 x = true ↔ x.1.pri = p ∧ ¬ x.1.wt ≤ 0 := by
  unfold selK key heldI
  rw [decide_eq_true_iff]
  omega
theorem selK_iff {p : Int} {n : Nat} {x : El} (hn : n < 2) : selK p n x = true ↔ x.1.pri = p ∧ decide (x.1.wt ≤ 0) = decide ((n : Int) = 0) := by
  rcases Nat.lt_or_ge n 1 with h | h
  · obtain rfl : n = 0 := by omega
    rw [selK_zero]; simp
  · obtain rfl : n = 1 := by omega
    rw [selK_one]; simp
def rawW (F : List El) : List Int := F.map fun x => x.1.wt
theorem rawW_len (F : List El) : (rawW F).length = F.length := by simp [rawW]
def totK (F : List El) : Int := hsum (rawW F) (rawW F).length
theorem totK_snoc (F : List El) (x : El) : totK (F ++ [x]) = totK F + heldI x.1.wt := by
  have e : ∀ A : List Int, hsum A A.length = (A.map heldI).sum := fun A => by
    unfold hsum pre
    rw [List.take_of_length_le (by simp)]
  unfold totK
  rw [e, e]
  simp [rawW]
theorem own_apart {w : World} {base e k m : Nat} {u v v' : Value} {cs : List Value} (hu : w.ownsRow base e k u m cs) (ho : ∀ r, v.ownBlock = some r → u.ownBlock ≠ some r) (hAt : v'.ownBlock = v.ownBlock ∨ v'.ownBlock = some w.heap.size) : ∀ r, v'.ownBlock = some r → u.ownBlock ≠ some r := fun r h1 h2 => by
  rcases hAt with h | h
  · exact ho r (h ▸ h1) h2
  · have := (World.ownsRow.lt hu r h2).2
    rw [h] at h1
    cases h1
    omega
theorem own_beside {w w1 : World} {base e k m : Nat} {u v : Value} {cs : List Value} (hu : w.ownsRow base e k u m cs) (ho : ∀ r, v.ownBlock = some r → u.ownBlock ≠ some r) (hG : w.grownBy w1 v.ownBlock) : w1.ownsRow base e k u m cs :=
  World.ownsRow.kept hu hG (by
    cases h : u.ownBlock with
    | none => exact .inl rfl
    | some r => exact .inr fun e => ho r e.symm h)
structure KpS where
  vw : Value
  vf : Value
/-- What the loops have collected. -/
def KpI (w0 w' : World) (F : List El) (s : KpS) : Prop :=
  w'.ownsRow w0.heap.size 3 1 s.vw (rawW F).length (ints (rawW F)) ∧ w'.ownsRow w0.heap.size 44 33 s.vf F.length (F.flatMap cel) ∧ ∀ r, s.vw.ownBlock = some r → s.vf.ownBlock ≠ some r
theorem KpI.ext {w0 w w' : World} {F : List El} {s : KpS} (h : KpI w0 w F s) (hE : Ext w w') : KpI w0 w' F s := ⟨own_ext h.1 hE, own_ext h.2.1 hE, h.2.2⟩
set_option maxHeartbeats 4000000 in
theorem law_keeps (rs : List Rec) (v0 : Value) (ds : List Int) (v1 : Value) (w : World) (h0 : RecsAt w v0 rs) (hh : ∀ r ∈ rs, HeldR r) (hw : ∀ r ∈ rs, WfR r) (h1 : Sl w 1 v1 ds.length (ints ds)) :
    Ret Try.prog 5 #[v0, v1] w fun v w' => v = .bool true ∧ Ext w w' := by
  have hE0 := Ext.refl w
  refine Ret.body Try.func5 rfl Try.ntmps5 rfl ?_
  obtain ⟨ad, cd, rfl, hdl, hdr, hdz⟩ := id h1
  obtain ⟨⟨ao, c, rfl, hl0, hr0, hz0⟩, hrec⟩ := id h0
  have kR : Keep (RecsAt w (.slice ao rs.length c) rs) := h0
  have kD : Keep (Sl w 1 (.slice ad ds.length cd) ds.length (ints ds)) := h1
  clear hrec hr0 hdr
  by_cases hd2 : ds.length ≤ 200
  · refine Cd.seq ?_
    refine Cd.region ?_
    refine Seg.step rfl rfl (Yd.assign rfl) ?_
    refine Seg.nil ?_
    refine At.then_ ?_
    refine Cd.seq ?_
    refine Cd.seq ?_
    refine Cd.region ?_
    (refine Seg.call rfl rfl (own_of rfl) rfl (works41 _) ?_; rintro _ w11 ⟨rfl, hE11⟩)
    replace hE0 := Ext.trans hE0 hE11
    replace h1 := h1.ext hE11
    replace h0 := h0.ext hE11
    refine Seg.step rfl rfl (Yd.not rfl) ?_
    refine Seg.step rfl rfl (Yd.move rfl) ?_
    refine Seg.step rfl rfl (Yd.move rfl) ?_
    (refine Seg.call rfl rfl (own_of rfl) rfl (small26 rs _ _ h0 hh) ?_; rintro _ w15 ⟨⟨sm, rfl, hsm⟩, hE15⟩; cases sm)
    replace hE11 := Ext.trans hE11 hE15
    replace hE0 := Ext.trans hE0 hE15
    replace h1 := h1.ext hE15
    replace h0 := h0.ext hE15
    refine Seg.step rfl rfl (Yd.not rfl) ?_
    refine Seg.step rfl rfl (Yd.pickF rfl rfl) ?_
    refine Seg.step rfl rfl (Yd.move rfl) ?_
    refine Seg.skip rfl rfl ?_
    refine Seg.skip rfl rfl ?_
    refine Seg.skip rfl rfl ?_
    refine Seg.step rfl rfl (Yd.pickT rfl rfl) ?_
    refine Seg.nil ?_
    refine At.then_ ?_
    refine Cd.condT rfl ?_
    refine Cd.seq ?_
    refine Cd.region ?_
    (refine Seg.call rfl rfl (own_of rfl) rfl (works41 _) ?_; rintro _ w28 ⟨rfl, hE28⟩)
    replace hE15 := Ext.trans hE15 hE28
    replace hE11 := Ext.trans hE11 hE28
    replace hE0 := Ext.trans hE0 hE28
    replace h1 := h1.ext hE28
    replace h0 := h0.ext hE28
    refine Seg.step rfl rfl (Yd.assign rfl) ?_
    refine Seg.nil ?_
    refine At.then_ ?_
    refine Cd.ret ?_
    refine At.then_ret ?_
    exact At.ret Try.results5 (.tmp rfl .nil) ⟨rfl, by assumption⟩
    obtain ⟨hn60, hfit⟩ := hsm rfl
    obtain ⟨es, hes⟩ := els_of kR.2
    have hel : es.length = rs.length := by rw [← hes, List.length_map]
    have hsl : ∀ {w' : World}, Ext w w' → Sl w' 33 (.slice ao rs.length c) es.length (es.flatMap cel) := fun hE => by
      have h := kR.1.ext hE
      have e : recsV rs = es.flatMap cel := by rw [← hes]; unfold recsV; rw [List.flatMap_map]; rfl
      rw [e] at h
      rw [hel]; exact h
    have kEw : Keep (Ext w w15) := Ext.trans (by assumption : Ext w w11) hE15
    have hEr := Ext.refl w15
    refine Seg.step rfl rfl (Yd.not rfl) ?_
    refine Seg.step rfl rfl (Yd.pickF rfl rfl) ?_
    refine Seg.step rfl rfl (Yd.move rfl) ?_
    refine Seg.step rfl rfl (Yd.move rfl) ?_
    refine Seg.step rfl rfl (Yd.lenS rfl rfl) ?_
    refine Seg.step rfl rfl (Yd.gtr rfl rfl) ?_
    refine Seg.step rfl rfl (Yd.pickF rfl rfl) ?_
    refine Seg.nil ?_
    refine At.then_ ?_
    refine Cd.condk rfl (fun h70 => ?_) (fun h70 => ?_)
    · exfalso; omega
    refine Cd.skip ?_
    refine At.then_ ?_
    refine Cd.seq ?_
    refine Cd.region ?_
    refine Seg.step rfl rfl (Yd.move rfl) ?_
    refine Seg.step rfl rfl (Yd.move rfl) ?_
    (refine Seg.call rfl rfl (own_of rfl) rfl (new_any ds _ _ (Sl.ext kD (Ext.trans kEw hEr)) (by omega)) ?_; rintro _ w78 ⟨b, rfl, hE78, hb78, hL⟩)
    have hlt78_0 := Nat.le_trans hE15.size hb78
    have hlt78_1 := Nat.le_trans hEr.size hb78
    replace hE15 := Ext.trans hE15 hE78
    replace hEr := Ext.trans hEr hE78
    have hbl1 := hL.1.1
    have hbl2 := hL.1.2
    refine Seg.call rfl rfl (own_of rfl) rfl (order_lot w15 es _ ds _ b _ (hsl (Ext.trans kEw hEr)) (by omega) hL (fun x h => h.2) hEr hL.1.1) ?_
    rintro vo w5 ⟨Y, hY, hYs, hO5, hK5, hE5⟩
    have hOe : ∃ O, O = ordG (some (ds, 0)) Y.length Y := ⟨_, rfl⟩
    obtain ⟨O, hO⟩ := hOe
    rw [← hO] at hO5
    obtain ⟨oa, oc, rfl⟩ := own_shape hO5
    have kO5 : Keep (Sl w5 33 (.slice oa O.length oc) O.length (O.flatMap cel)) := own_sl hO5
    have hbl5 := Nat.lt_of_lt_of_le hbl2 hK5.size
    have hE0 := Ext.trans kEw hE5
    have hE2s : Ext w15 w5 := hE5
    have hE5r := Ext.refl w5
    have hperm : O.Perm Y := by rw [hO]; exact ordG_perm _ _ _ (Nat.le_refl _)
    have hOl : O.length = rs.length := by rw [hperm.length_eq, ← hYs.len, hel]
    have hab5 := own_above hO5
    have hvb : OffP (fun r => r = b) (.slice oa O.length oc) := fun p m k e _ hp => by
      have h9 := hab5 p m k e
      simp only at hp
      omega
    clear hE5 hL hO5 hK5 hEr hab5
    refine Seg.step rfl rfl (Yd.assign rfl) ?_
    refine Seg.nil ?_
    refine At.then_ ?_
    refine Cd.seq ?_
    refine Cd.seq ?_
    refine Cd.region ?_
    refine Seg.step rfl rfl (Yd.move rfl) ?_
    refine Seg.step rfl rfl (Yd.lenS rfl rfl) ?_
    refine Seg.step rfl rfl (Yd.move rfl) ?_
    refine Seg.step rfl rfl (Yd.lenS rfl rfl) ?_
    refine Seg.step rfl rfl (Yd.neq rfl rfl) ?_
    refine Seg.step rfl rfl (Yd.move rfl) ?_
    refine Seg.gsplitp rfl rfl (fun h91 => ?_) (fun h91 => ?_)
    · exfalso; omega
    refine Seg.step rfl rfl (Yd.move rfl) ?_
    have hbl6 := Nat.lt_of_lt_of_le hbl5 (Below.size hE5r)
    refine Seg.call rfl rfl (own_of rfl) rfl (order_any none w15 es _ (.slice none 0 0) _ b _ (hsl (Ext.trans kEw hE2s)) (by omega) hbl6 rfl (fun _ _ h => by cases h) (fun _ _ _ h => by cases h) (fun _ _ _ h => by cases h) hE2s hbl1) ?_
    rintro vo2 w6 ⟨Y2, hY2, hYs2, hO6, hK6, hE6⟩
    have hO2l : (ordG none Y2.length Y2).length = rs.length := by rw [(ordG_perm Y2.length none Y2 (Nat.le_refl _)).length_eq, ← hYs2.len, hel]
    rw [hO2l] at hO6
    obtain ⟨pa, pc, rfl⟩ := own_shape hO6
    have hE2t : Ext w15 w6 := hE6
    have kO6 : Keep (Sl w6 33 (.slice oa O.length oc) O.length (O.flatMap cel)) := Sl.keptP (Sl.ext kO5 hE5r) hK6 hvb
    have hE6r := Ext.refl w6
    clear hE0 hO6 hK6 hE6
    have hE0 := Ext.trans kEw hE2t
    have hcnt : ∀ r : Rec, countR (O.map Subtype.val) r = countR rs r := fun r => by
      unfold countR
      rw [← hes, List.countP_map, List.countP_map, hperm.countP_eq]
      exact (SameBy.count _ hYs).symm
    have hOR : ∀ x ∈ O, x.1 ∈ rs := fun x hx => by
      rw [← hes]
      exact List.mem_map_of_mem (hYs.mem.2 (hperm.mem_iff.1 hx))
    have hatO : ∀ {w' : World}, Ext w w' → Sl w' 33 (.slice oa O.length oc) O.length (O.flatMap cel) → RecsAt w' (.slice oa O.length oc) (O.map Subtype.val) := fun hE h => by
      refine ⟨?_, fun r hr => ?_⟩
      · rw [List.length_map]
        have e : recsV (O.map Subtype.val) = O.flatMap cel := by unfold recsV; rw [List.flatMap_map]; rfl
        rw [e]; exact h
      · obtain ⟨x, hx, rfl⟩ := List.mem_map.1 hr
        exact (kR.2 _ (hOR x hx)).ext hE
    refine Seg.step rfl rfl (Yd.lenS rfl rfl) ?_
    refine Seg.step rfl rfl (Yd.move rfl) ?_
    refine Seg.step rfl rfl (Yd.lenS rfl rfl) ?_
    refine Seg.step rfl rfl (Yd.neq rfl rfl) ?_
    refine Seg.step rfl rfl (Yd.pickF rfl rfl) ?_
    refine Seg.nil ?_
    refine At.then_ ?_
    refine Cd.condk rfl (fun h99 => ?_) (fun h99 => ?_)
    · exfalso; omega
    refine Cd.skip ?_
    refine At.then_ ?_
    refine Cd.seq ?_
    refine Cd.seq ?_
    refine Cd.region ?_
    refine Seg.step rfl rfl (Yd.assign rfl) ?_
    refine Seg.nil ?_
    refine At.then_ ?_
    refine Cd.block ?_
    refine Cd.loop (σ := Nat) (fun i => [(0, .slice ao rs.length c), (1, .slice ad ds.length cd), (5, .slice oa O.length oc), (6, .int .i64 (i : Int))]) (fun i w' => i ≤ O.length ∧ Ext w6 w') (fun i => O.length - i) 0 (.cons rfl (.cons rfl (.cons rfl (.cons rfl (.nil _))))) ⟨Nat.zero_le _, by assumption⟩ ?_
    have hrise : O.Pairwise fun x z => x.1.pri ≤ z.1.pri := by rw [hO]; exact ordG_rise _ _ _ (Nat.le_refl _) hY
    have kEt : Keep (Ext w15 w6) := hE2t
    clear hE0 hE6r hE2t
    rintro i w7 ⟨hi, hE7⟩
    have hE0 := Ext.trans (Ext.trans kEw kEt) hE7
    by_cases hlt : i < O.length
    · obtain ⟨x, hx⟩ : ∃ x, O[i]? = some x := ⟨_, List.getElem?_eq_getElem hlt⟩
      obtain ⟨d, rfl⟩ : ∃ d, oa = some d := by
        obtain ⟨ao', c', e, _, _, hz⟩ := kO6
        cases e
        cases oa with
        | none => have := hz rfl; omega
        | some d => exact ⟨d, rfl⟩
      have hrowO : ∀ {w' : World} {j : Nat} {z : El}, Ext w6 w' → O[j]? = some z → Row w' (Addr.add d (j * 33)) (cel z) := fun hE hz => by
        obtain ⟨ao', c', e, _, hr, _⟩ := kO6
        cases e
        exact (flat_row (cel := cel) (zs := []) celK (by simpa using hr d rfl) hz).ext hE
      have hxm := List.mem_of_getElem? hx
      have hxr := hOR x hxm
      have hc1 := fun (w' : World) (hE : Ext w6 w') => count_any (O.map Subtype.val) x.1 _ w' (hatO (Ext.trans (Ext.trans kEw kEt) hE) (Sl.ext kO6 hE)) ((kR.2 _ hxr).ext (Ext.trans (Ext.trans kEw kEt) hE)) (fun r hr => by
        obtain ⟨y, hy, rfl⟩ := List.mem_map.1 hr
        exact hfit _ (hOR y hy)) (fun r hr => by
        obtain ⟨y, hy, rfl⟩ := List.mem_map.1 hr
        exact hw _ (hOR y hy)) (hw _ hxr) (by rw [List.length_map]; omega)
      have hc2 := fun (w' : World) (hE : Ext w6 w') => count_any rs x.1 _ w' (RecsAt.ext kR (Ext.trans (Ext.trans kEw kEt) hE)) ((kR.2 _ hxr).ext (Ext.trans (Ext.trans kEw kEt) hE)) hfit hw (hw _ hxr) (by omega)
      have hrx := hrowO hE7 hx
      have hcx := hcnt x.1
      obtain ⟨y, hy⟩ : ∃ y, O[i - 1]? = some y := ⟨_, List.getElem?_eq_getElem (by omega)⟩
      have hry := hrowO hE7 hy
      have hyx : 0 < (i : Int) → ¬ x.1.pri < y.1.pri := fun h => by
        obtain ⟨a1, a2⟩ := List.getElem?_eq_some_iff.1 hx
        obtain ⟨b1, b2⟩ := List.getElem?_eq_some_iff.1 hy
        have h3 := List.pairwise_iff_getElem.1 hrise (i - 1) i b1 a1 (by omega)
        rw [a2, b2] at h3
        exact Int.not_lt.2 h3
      have hrnd : ∀ w', Ext w6 w' → (i + 1 ≤ O.length ∧ Ext w6 w') := fun w' h => ⟨hlt, h⟩
      refine Cd.seq ?_
      refine Cd.seq ?_
      refine Cd.region ?_
      refine Seg.step rfl rfl (Yd.move rfl) ?_
      refine Seg.step rfl rfl (Yd.move rfl) ?_
      refine Seg.step rfl rfl (Yd.lenS rfl rfl) ?_
      refine Seg.step rfl rfl (Yd.lss rfl rfl) ?_
      refine Seg.nil ?_
      refine At.then_ ?_
      refine Cd.condk rfl (fun h109 => ?_) (fun h109 => ?_)
      · refine Cd.skip ?_
        refine At.then_ ?_
        refine Cd.seq ?_
        refine Cd.block ?_
        refine Cd.seq ?_
        refine Cd.anyE (by kernel_rfl) (fun w116 hE116 => ?_)
        replace hE7 := Ext.trans hE7 hE116
        replace hE0 := Ext.trans hE0 hE116
        replace hrx := hrx.ext hE116
        replace hry := hry.ext hE116
        refine SegA.pure 0 rfl (by kernel_rfl) (by kernel_rfl) (by kernel_rfl) rfl rfl (fun _ => Yd.move rfl) ?_
        refine SegA.pure 1 rfl (by kernel_rfl) (by kernel_rfl) (by kernel_rfl) rfl rfl (fun _ => Yd.move rfl) ?_
        refine SegA.pure 2 rfl (by kernel_rfl) (by kernel_rfl) (by kernel_rfl) rfl rfl (fun _ => Yd.move rfl) ?_
        refine SegA.pure 3 rfl (by kernel_rfl) (by kernel_rfl) (by kernel_rfl) rfl rfl (fun _ => Yd.indexAddr rfl rfl rfl (NatOf.cast _) (by omega)) ?_
        refine SegA.pure 6 rfl (by kernel_rfl) (by kernel_rfl) (by kernel_rfl) rfl rfl (fun _ => Yd.move rfl) ?_
        refine SegA.pure 7 rfl (by kernel_rfl) (by kernel_rfl) (by kernel_rfl) rfl rfl (fun _ => Yd.move rfl) ?_
        refine SegA.pure 8 rfl (by kernel_rfl) (by kernel_rfl) (by kernel_rfl) rfl rfl (fun _ => Yd.move rfl) ?_
        refine SegA.pure 9 rfl (by kernel_rfl) (by kernel_rfl) (by kernel_rfl) rfl rfl (fun _ => Yd.indexAddr rfl rfl rfl (NatOf.cast _) (by omega)) ?_
        refine SegA.held 31 ?_
        refine SegG.take 4 rfl (by kernel_rfl) (by kernel_rfl) (by kernel_rfl) (by kernel_rfl) (by kernel_rfl) rfl rfl (fun w' hw' => Yd.loadN rfl rfl rfl (hrx.ext hw')) ?_
        refine SegG.take 10 rfl (by kernel_rfl) (by kernel_rfl) (by kernel_rfl) (by kernel_rfl) (by kernel_rfl) rfl rfl (fun w' hw' => Yd.loadN rfl rfl rfl (hrx.ext hw')) ?_
        refine SegG.oneSeg (o := ⟨_, _, _, _, _, _⟩) 5 rfl (by kernel_rfl) ?_
        (refine Seg.call rfl rfl (own_of rfl) rfl (hc1 _ hE7) ?_; rintro _ w129 ⟨rfl, hE129⟩; rw [hcx])
        replace hE116 := Ext.trans hE116 hE129
        replace hE7 := Ext.trans hE7 hE129
        replace hE0 := Ext.trans hE0 hE129
        replace hrx := hrx.ext hE129
        replace hry := hry.ext hE129
        refine SegG.back rfl (by first | assumption | exact Ext.refl _) ?_
        refine SegG.oneSeg (o := ⟨_, _, _, _, _, _⟩) 11 rfl (by kernel_rfl) ?_
        (refine Seg.call rfl rfl (own_of rfl) rfl (hc2 _ hE7) ?_; rintro _ w132 ⟨rfl, hE132⟩)
        replace hE129 := Ext.trans hE129 hE132
        replace hE116 := Ext.trans hE116 hE132
        replace hE7 := Ext.trans hE7 hE132
        replace hE0 := Ext.trans hE0 hE132
        replace hrx := hrx.ext hE132
        replace hry := hry.ext hE132
        refine SegG.back rfl (by first | assumption | exact Ext.refl _) ?_
        refine SegG.take 12 rfl (by kernel_rfl) (by kernel_rfl) (by kernel_rfl) (by kernel_rfl) (by kernel_rfl) rfl rfl (fun w' hw' => Yd.neq rfl rfl) ?_
        refine SegG.take 13 rfl (by kernel_rfl) (by kernel_rfl) (by kernel_rfl) (by kernel_rfl) (by kernel_rfl) rfl rfl (fun w' hw' => Yd.move rfl) ?_
        refine SegG.oneSeg (o := ⟨_, _, _, _, _, _⟩) 14 rfl (by kernel_rfl) ?_
        refine Seg.gsplitp rfl rfl (fun h137 => ?_) (fun h137 => ?_)
        · exfalso; omega
        · refine Seg.step rfl rfl (Yd.move rfl) ?_
          refine SegG.back rfl (by first | assumption | exact Ext.refl _) ?_
          refine SegG.take 15 rfl (by kernel_rfl) (by kernel_rfl) (by kernel_rfl) (by kernel_rfl) (by kernel_rfl) rfl rfl (fun w' hw' => Yd.gtr rfl rfl) ?_
          refine SegG.take 16 rfl (by kernel_rfl) (by kernel_rfl) (by kernel_rfl) (by kernel_rfl) (by kernel_rfl) rfl rfl (fun w' hw' => Yd.move rfl) ?_
          refine SegG.gsplitp 17 rfl rfl rfl (fun h143 => ?_) (fun h143 => ?_)
          · refine SegG.take 17 rfl (by kernel_rfl) (by kernel_rfl) (by kernel_rfl) (by kernel_rfl) (by kernel_rfl) rfl rfl (fun w' hw' => Yd.move rfl) ?_
            refine SegG.take 18 rfl (by kernel_rfl) (by kernel_rfl) (by kernel_rfl) (by kernel_rfl) (by kernel_rfl) rfl rfl (fun w' hw' => Yd.move rfl) ?_
            refine SegG.take 19 rfl (by kernel_rfl) (by kernel_rfl) (by kernel_rfl) (by kernel_rfl) (by kernel_rfl) rfl rfl (fun w' hw' => Yd.indexAddr rfl rfl rfl (NatOf.cast _) (by omega)) ?_
            refine SegG.take 20 rfl (by kernel_rfl) (by kernel_rfl) (by kernel_rfl) (by kernel_rfl) (by kernel_rfl) rfl rfl (fun w' hw' => Yd.fieldAddr rfl rfl) ?_
            refine SegG.take 21 rfl (by kernel_rfl) (by kernel_rfl) (by kernel_rfl) (by kernel_rfl) (by kernel_rfl) rfl rfl (fun w' hw' => Yd.load1 rfl rfl ((hrx.ext hw') _ _ rfl)) ?_
            refine SegG.take 22 rfl (by kernel_rfl) (by kernel_rfl) (by kernel_rfl) (by kernel_rfl) (by kernel_rfl) rfl rfl (fun w' hw' => Yd.move rfl) ?_
            refine SegG.take 23 rfl (by kernel_rfl) (by kernel_rfl) (by kernel_rfl) (by kernel_rfl) (by kernel_rfl) rfl rfl (fun w' hw' => Yd.move rfl) ?_
            refine SegG.take 24 rfl (by kernel_rfl) (by kernel_rfl) (by kernel_rfl) (by kernel_rfl) (by kernel_rfl) rfl rfl (fun w' hw' => Yd.subI rfl rfl (by omega)) ?_
            refine SegG.take 25 rfl (by kernel_rfl) (by kernel_rfl) (by kernel_rfl) (by kernel_rfl) (by kernel_rfl) rfl rfl (fun w' hw' => Yd.indexAddr rfl rfl rfl (NatOf.sub (NatOf.cast _) (NatOf.cast 1) (by omega)) (by omega)) ?_
            refine SegG.take 26 rfl (by kernel_rfl) (by kernel_rfl) (by kernel_rfl) (by kernel_rfl) (by kernel_rfl) rfl rfl (fun w' hw' => Yd.fieldAddr rfl rfl) ?_
            refine SegG.take 27 rfl (by kernel_rfl) (by kernel_rfl) (by kernel_rfl) (by kernel_rfl) (by kernel_rfl) rfl rfl (fun w' hw' => Yd.load1 rfl rfl ((hry.ext hw') _ _ rfl)) ?_
            refine SegG.take 28 rfl (by kernel_rfl) (by kernel_rfl) (by kernel_rfl) (by kernel_rfl) (by kernel_rfl) rfl rfl (fun w' hw' => Yd.lss rfl rfl) ?_
            refine SegG.take 29 rfl (by kernel_rfl) (by kernel_rfl) (by kernel_rfl) (by kernel_rfl) (by kernel_rfl) rfl rfl (fun w' hw' => Yd.pickT rfl rfl) ?_
            refine SegG.take 30 rfl (by kernel_rfl) (by kernel_rfl) (by kernel_rfl) (by kernel_rfl) (by kernel_rfl) rfl rfl (fun w' hw' => Yd.pickF rfl rfl) ?_
            refine SegG.done (by kernel_rfl) ?_
            refine At.then_ ?_
            refine Cd.condk rfl (fun h161 => ?_) (fun h161 => ?_)
            · exfalso; omega
            · refine Cd.skip ?_
              refine At.blk ?_
              refine At.then_ ?_
              refine Cd.region ?_
              refine Seg.step rfl rfl (Yd.move rfl) ?_
              refine Seg.step rfl rfl (Yd.addI rfl rfl (by omega)) ?_
              refine Seg.step rfl rfl (Yd.assign rfl) ?_
              refine Seg.nil ?_
              exact At.round (i + 1) (.cons rfl (.cons rfl (.cons rfl (.cons rfl (.nil _))))) ⟨hlt, by assumption⟩ (Nat.sub_lt_sub_left hlt (Nat.lt_succ_self i))
          · refine SegG.skip 17 rfl (by kernel_rfl) (by kernel_rfl) (by kernel_rfl) (by kernel_rfl) (by kernel_rfl) rfl rfl ?_
            refine SegG.skip 18 rfl (by kernel_rfl) (by kernel_rfl) (by kernel_rfl) (by kernel_rfl) (by kernel_rfl) rfl rfl ?_
            refine SegG.skip 19 rfl (by kernel_rfl) (by kernel_rfl) (by kernel_rfl) (by kernel_rfl) (by kernel_rfl) rfl rfl ?_
            refine SegG.skip 20 rfl (by kernel_rfl) (by kernel_rfl) (by kernel_rfl) (by kernel_rfl) (by kernel_rfl) rfl rfl ?_
            refine SegG.skip 21 rfl (by kernel_rfl) (by kernel_rfl) (by kernel_rfl) (by kernel_rfl) (by kernel_rfl) rfl rfl ?_
            refine SegG.skip 22 rfl (by kernel_rfl) (by kernel_rfl) (by kernel_rfl) (by kernel_rfl) (by kernel_rfl) rfl rfl ?_
            refine SegG.skip 23 rfl (by kernel_rfl) (by kernel_rfl) (by kernel_rfl) (by kernel_rfl) (by kernel_rfl) rfl rfl ?_
            refine SegG.skip 24 rfl (by kernel_rfl) (by kernel_rfl) (by kernel_rfl) (by kernel_rfl) (by kernel_rfl) rfl rfl ?_
            refine SegG.skip 25 rfl (by kernel_rfl) (by kernel_rfl) (by kernel_rfl) (by kernel_rfl) (by kernel_rfl) rfl rfl ?_
            refine SegG.skip 26 rfl (by kernel_rfl) (by kernel_rfl) (by kernel_rfl) (by kernel_rfl) (by kernel_rfl) rfl rfl ?_
            refine SegG.skip 27 rfl (by kernel_rfl) (by kernel_rfl) (by kernel_rfl) (by kernel_rfl) (by kernel_rfl) rfl rfl ?_
            refine SegG.skip 28 rfl (by kernel_rfl) (by kernel_rfl) (by kernel_rfl) (by kernel_rfl) (by kernel_rfl) rfl rfl ?_
            refine SegG.take 29 rfl (by kernel_rfl) (by kernel_rfl) (by kernel_rfl) (by kernel_rfl) (by kernel_rfl) rfl rfl (fun w' hw' => Yd.pickF rfl rfl) ?_
            refine SegG.take 30 rfl (by kernel_rfl) (by kernel_rfl) (by kernel_rfl) (by kernel_rfl) (by kernel_rfl) rfl rfl (fun w' hw' => Yd.pickF rfl rfl) ?_
            refine SegG.done (by kernel_rfl) ?_
            refine At.then_ ?_
            refine Cd.condF rfl ?_
            refine Cd.skip ?_
            refine At.blk ?_
            refine At.then_ ?_
            refine Cd.region ?_
            refine Seg.step rfl rfl (Yd.move rfl) ?_
            refine Seg.step rfl rfl (Yd.addI rfl rfl (by omega)) ?_
            refine Seg.step rfl rfl (Yd.assign rfl) ?_
            refine Seg.nil ?_
            exact At.round (i + 1) (.cons rfl (.cons rfl (.cons rfl (.cons rfl (.nil _))))) ⟨hlt, by assumption⟩ (Nat.sub_lt_sub_left hlt (Nat.lt_succ_self i))
      · exfalso; omega
    · have hie : i = O.length := by omega
      subst hie
      by_cases hO0 : O.length = 0
      · refine Cd.seq ?_
        refine Cd.seq ?_
        refine Cd.region ?_
        refine Seg.step rfl rfl (Yd.move rfl) ?_
        refine Seg.step rfl rfl (Yd.move rfl) ?_
        refine Seg.step rfl rfl (Yd.lenS rfl rfl) ?_
        refine Seg.step rfl rfl (Yd.lss rfl rfl) ?_
        refine Seg.nil ?_
        refine At.then_ ?_
        refine Cd.condk rfl (fun h109 => ?_) (fun h109 => ?_)
        · exfalso; omega
        · refine Cd.exit ?_
          refine At.then_exit ?_
          refine At.then_exit ?_
          refine At.blk_same ?_
          refine At.then_ ?_
          refine Cd.seq ?_
          refine Cd.seq ?_
          refine Cd.region ?_
          refine Seg.step rfl rfl (Yd.move rfl) ?_
          refine Seg.step rfl rfl (Yd.lenS rfl rfl) ?_
          refine Seg.step rfl rfl (Yd.eql rfl rfl) ?_
          refine Seg.nil ?_
          refine At.then_ ?_
          refine Cd.condk rfl (fun h124 => ?_) (fun h124 => ?_)
          · refine Cd.seq ?_
            refine Cd.region ?_
            refine Seg.step rfl rfl (Yd.assign rfl) ?_
            refine Seg.nil ?_
            refine At.then_ ?_
            refine Cd.ret ?_
            refine At.then_ret ?_
            exact At.ret Try.results5 (.tmp rfl .nil) ⟨rfl, by assumption⟩
          · exfalso; omega
      · obtain ⟨o0, ho0⟩ : ∃ x, O[0]? = some x := ⟨_, List.getElem?_eq_getElem (by omega)⟩
        obtain ⟨d, rfl⟩ : ∃ d, oa = some d := by
          obtain ⟨ao', c', e, _, _, hz⟩ := kO6
          cases e
          cases oa with
          | none => have := hz rfl; omega
          | some d => exact ⟨d, rfl⟩
        have hrow0 : ∀ {w' : World}, Ext w6 w' → Row w' (Addr.add d 0) (cel o0) := fun hE => by
          obtain ⟨ao', c', e, _, hr, _⟩ := kO6
          cases e
          have := (flat_row (cel := cel) (zs := []) celK (by simpa using hr d rfl) ho0).ext hE
          simpa using this
        obtain ⟨a, rfl⟩ : ∃ a, ao = some a := by
          cases ao with
          | none => have := hz0 rfl; omega
          | some a => exact ⟨a, rfl⟩
        have hrowL : ∀ {w' : World} {i : Nat} {y : El}, Ext w w' → es[i]? = some y → Row w' (Addr.add a (i * 33)) (cel y) := fun {w'} {i} {y} hE hy => by
          have hyr : rs[i]? = some y.1 := by rw [← hes, List.getElem?_map, hy]; rfl
          obtain ⟨⟨ao', c', e, _, hr, _⟩, _⟩ := kR
          cases e
          exact (recs_part (hr a rfl) hyr).ext hE
        refine Cd.seq ?_
        refine Cd.seq ?_
        refine Cd.region ?_
        refine Seg.step rfl rfl (Yd.move rfl) ?_
        refine Seg.step rfl rfl (Yd.move rfl) ?_
        refine Seg.step rfl rfl (Yd.lenS rfl rfl) ?_
        refine Seg.step rfl rfl (Yd.lss rfl rfl) ?_
        refine Seg.nil ?_
        refine At.then_ ?_
        refine Cd.condk rfl (fun h109 => ?_) (fun h109 => ?_)
        · exfalso; omega
        refine Cd.exit ?_
        refine At.then_exit ?_
        refine At.then_exit ?_
        refine At.blk_same ?_
        refine At.then_ ?_
        refine Cd.seq ?_
        refine Cd.seq ?_
        refine Cd.region ?_
        refine Seg.step rfl rfl (Yd.move rfl) ?_
        refine Seg.step rfl rfl (Yd.lenS rfl rfl) ?_
        refine Seg.step rfl rfl (Yd.eql rfl rfl) ?_
        refine Seg.nil ?_
        refine At.then_ ?_
        refine Cd.condk rfl (fun h124 => ?_) (fun h124 => ?_)
        · exfalso; omega
        refine Cd.skip ?_
        refine At.then_ ?_
        refine Cd.seq ?_
        refine Cd.region ?_
        refine Seg.step rfl rfl (Yd.assign rfl) ?_
        refine Seg.nil ?_
        refine At.then_ ?_
        refine Cd.seq ?_
        refine Cd.region ?_
        refine Seg.step rfl rfl (Yd.assign rfl) ?_
        refine Seg.nil ?_
        refine At.then_ ?_
        refine Cd.seq ?_
        refine Cd.region ?_
        refine Seg.step rfl rfl (Yd.assign rfl) ?_
        refine Seg.nil ?_
        refine At.then_ ?_
        refine Cd.seq ?_
        refine Cd.seq ?_
        refine Cd.region ?_
        refine Seg.step rfl rfl (Yd.assign rfl) ?_
        refine Seg.nil ?_
        refine At.then_ ?_
        refine Cd.block ?_
        have kE7 : Keep (Ext w6 w7) := hE7
        refine Cd.loop (σ := KpS × Nat) (fun t => [(0, .slice (some a) rs.length c), (1, .slice ad ds.length cd), (5, .slice (some d) O.length oc), (7, t.1.vw), (8, t.1.vf), (9, .int .i64 (totK (accK es o0.1.pri t.2))), (10, .int .i64 (t.2 : Int))])
          (fun t w' => t.2 ≤ 2 ∧ KpI w6 w' (accK es o0.1.pri t.2) t.1 ∧ Ext w6 w') (fun t => 2 - t.2) (⟨.slice none 0 0, .slice none 0 0⟩, 0) (.cons rfl (.cons rfl (.cons rfl (.cons rfl (.cons rfl (.cons rfl (.cons rfl (.nil _))))))))
          ⟨Nat.zero_le _, ⟨World.ownsRow_nil _ _ _ _, World.ownsRow_nil _ _ _ _, fun _ h => by cases h⟩, hE7⟩ ?_
        clear hE0 hE7
        rintro ⟨⟨vw, vf⟩, n⟩ w8 ⟨hn2, hI, hE8⟩
        simp only at hn2 hI hE8 ⊢
        have kI8 : Keep (KpI w6 w8 (accK es o0.1.pri n) ⟨vw, vf⟩) := hI
        have kE8 : Keep (Ext w6 w8) := hE8
        clear hI
        by_cases hlt2 : n < 2
        · have hE0 := Ext.trans (Ext.trans kEw kEt) kE8
          refine Cd.seq ?_
          refine Cd.seq ?_
          refine Cd.region ?_
          refine Seg.step rfl rfl (Yd.move rfl) ?_
          refine Seg.step rfl rfl (Yd.lss rfl rfl) ?_
          refine Seg.nil ?_
          refine At.then_ ?_
          refine Cd.condk rfl (fun h132 => ?_) (fun h132 => ?_)
          rotate_left 1
          · exfalso; omega
          rotate_right 1
          refine Cd.skip ?_
          refine At.then_ ?_
          refine Cd.seq ?_
          refine Cd.block ?_
          refine Cd.seq ?_
          refine Cd.region ?_
          refine Seg.step rfl rfl (Yd.assign rfl) ?_
          refine Seg.nil ?_
          refine At.then_ ?_
          refine Cd.block ?_
          refine Cd.loop (σ := KpS × Nat) (fun t => [(0, .slice (some a) rs.length c), (1, .slice ad ds.length cd), (5, .slice (some d) O.length oc), (7, t.1.vw), (8, t.1.vf), (9, .int .i64 (totK (fsK es o0.1.pri n t.2))), (10, .int .i64 (n : Int)), (11, .int .i64 (t.2 : Int))])
            (fun t w' => t.2 ≤ es.length ∧ KpI w6 w' (fsK es o0.1.pri n t.2) t.1 ∧ Ext w6 w') (fun t => es.length - t.2) (⟨vw, vf⟩, 0) (by rw [fsK_zero]; exact (.cons rfl (.cons rfl (.cons rfl (.cons rfl (.cons rfl (.cons rfl (.cons rfl (.cons rfl (.nil _))))))))))
            ⟨Nat.zero_le _, by rw [fsK_zero]; exact kI8, hE8⟩ ?_
          clear hE0 hE8
          rintro ⟨⟨vw1, vf1⟩, i⟩ w9 ⟨hi9, hI9, hE9⟩
          simp only at hi9 hI9 hE9 ⊢
          have kI9 : Keep (KpI w6 w9 (fsK es o0.1.pri n i) ⟨vw1, vf1⟩) := hI9
          have kE9 : Keep (Ext w6 w9) := hE9
          have hE0 := Ext.trans (Ext.trans kEw kEt) kE9
          have hE9r := Ext.refl w9
          clear hI9
          have hie : (i : Int) < rs.length ↔ i < es.length := by omega
          by_cases hlt9 : i < es.length
          · obtain ⟨x, hx⟩ : ∃ x, es[i]? = some x := ⟨_, List.getElem?_eq_getElem hlt9⟩
            have hrx := hrowL hE0 hx
            have hr0 := hrow0 hE9
            by_cases hp : x.1.pri = o0.1.pri
            · by_cases hz : decide (x.1.wt ≤ 0) = decide ((n : Int) = 0)
              · have hsel : selK o0.1.pri n x = true := (selK_iff hlt2).2 ⟨hp, hz⟩
                have hb1 : ((fsK es o0.1.pri n i).length : Nat) ≤ 2 * es.length := fsK_len (by omega)
                refine Cd.seq ?_
                refine Cd.seq ?_
                refine Cd.region ?_
                refine Seg.step rfl rfl (Yd.move rfl) ?_
                refine Seg.step rfl rfl (Yd.move rfl) ?_
                refine Seg.step rfl rfl (Yd.lenS rfl rfl) ?_
                refine Seg.step rfl rfl (Yd.lss rfl rfl) ?_
                refine Seg.nil ?_
                refine At.then_ ?_
                refine Cd.condk rfl (fun h142 => ?_) (fun h142 => ?_)
                rotate_left 1
                · exfalso; omega
                rotate_right 1
                refine Cd.skip ?_
                refine At.then_ ?_
                refine Cd.seq ?_
                refine Cd.block ?_
                refine Cd.seq ?_
                refine Cd.quiet (by kernel_rfl) (by kernel_rfl) ?_
                refine SegQ.step rfl rfl (fun w' hw' => Yd.move rfl) ?_
                refine SegQ.step rfl rfl (fun w' hw' => Yd.move rfl) ?_
                refine SegQ.step rfl rfl (fun w' hw' => Yd.indexAddr rfl rfl rfl (NatOf.cast _) (by omega)) ?_
                refine SegQ.step rfl rfl (fun w' hw' => Yd.fieldAddr rfl rfl) ?_
                refine SegQ.step rfl rfl (fun w' hw' => Yd.load1 rfl rfl ((hrx.ext hw') _ _ rfl)) ?_
                refine SegQ.step rfl rfl (fun w' hw' => Yd.move rfl) ?_
                refine SegQ.step rfl rfl (fun w' hw' => Yd.indexAddr rfl rfl rfl (NatOf.cast 0) (by omega)) ?_
                refine SegQ.step rfl rfl (fun w' hw' => Yd.fieldAddr' rfl rfl) ?_
                refine SegQ.step rfl rfl (fun w' hw' => Yd.load1 rfl rfl ((hr0.ext hw') _ _ rfl)) ?_
                refine SegQ.step rfl rfl (fun w' hw' => Yd.eql rfl rfl) ?_
                refine SegQ.step rfl rfl (fun w' hw' => Yd.move rfl) ?_
                refine SegQ.gsplitp rfl rfl (fun h161 => ?_) (fun h161 => ?_)
                rotate_left 1
                · exfalso; omega
                rotate_right 1
                refine SegQ.step rfl rfl (fun w' hw' => Yd.move rfl) ?_
                refine SegQ.step rfl rfl (fun w' hw' => Yd.move rfl) ?_
                refine SegQ.step rfl rfl (fun w' hw' => Yd.indexAddr rfl rfl rfl (NatOf.cast _) (by omega)) ?_
                refine SegQ.step rfl rfl (fun w' hw' => Yd.fieldAddr rfl rfl) ?_
                refine SegQ.step rfl rfl (fun w' hw' => Yd.load1 rfl rfl ((hrx.ext hw') _ _ rfl)) ?_
                refine SegQ.step rfl rfl (fun w' hw' => Yd.leq rfl rfl) ?_
                refine SegQ.step rfl rfl (fun w' hw' => Yd.move rfl) ?_
                refine SegQ.step rfl rfl (fun w' hw' => Yd.eql rfl rfl) ?_
                refine SegQ.step rfl rfl (fun w' hw' => Yd.eqlB rfl rfl rfl) ?_
                refine SegQ.step rfl rfl (fun w' hw' => Yd.pickT rfl rfl) ?_
                refine SegQ.nil fun w173 hE173 => ?_
                replace hE9 := Ext.trans hE9 hE173
                replace hE0 := Ext.trans hE0 hE173
                replace hE9r := Ext.trans hE9r hE173
                replace hrx := hrx.ext hE173
                replace hr0 := hr0.ext hE173
                refine At.then_ ?_
                refine Cd.condk rfl (fun h175 => ?_) (fun h175 => ?_)
                rotate_left 1
                · contradiction
                rotate_right 1
                refine Cd.seq ?_
                refine Cd.region ?_
                refine Seg.step rfl rfl (Yd.move rfl) ?_
                refine Seg.step rfl rfl (Yd.move rfl) ?_
                refine Seg.step rfl rfl (Yd.move rfl) ?_
                refine Seg.step rfl rfl (Yd.indexAddr rfl rfl rfl (NatOf.cast _) (by omega)) ?_
                refine Seg.step rfl rfl (Yd.fieldAddr rfl rfl) ?_
                refine Seg.step rfl rfl (Yd.load1 rfl rfl (hrx 25 (.int .i64 x.1.wt) rfl)) ?_
                refine Seg.buildSliceV rfl rfl rfl rfl rfl rfl rfl rfl rfl rfl (fun w185 b185 hE185 hB185 hb185 hO185 => ?_)
                have hlt185_0 := Nat.le_trans hE173.size hb185
                have hlt185_1 := Nat.le_trans hE9.size hb185
                have hlt185_2 := Nat.le_trans hE0.size hb185
                have hlt185_3 := Nat.le_trans hE9r.size hb185
                replace hE173 := Ext.trans hE173 hE185
                replace hE9 := Ext.trans hE9 hE185
                replace hE0 := Ext.trans hE0 hE185
                replace hE9r := Ext.trans hE9r hE185
                replace hrx := hrx.ext hE185
                replace hr0 := hr0.ext hE185
                obtain ⟨o1, o2, o3⟩ := kI9
                simp only at o1 o2 o3
                have kO2 : Keep (w9.ownsRow w6.heap.size 44 33 vf1 (fsK es o0.1.pri n i).length ((fsK es o0.1.pri n i).flatMap cel)) := o2
                have hE185 : Ext w9 w185 := by assumption
                refine Seg.appendAt (xs := ints (rawW (fsK es o0.1.pri n i))) (news := ints [x.1.wt]) (m' := 1) rfl rfl rfl rfl rfl rfl rfl rfl rfl (own_ext o1 hE185) (own_sl (cs := ints [x.1.wt]) (by assumption)) (fun c hc => by rw [List.mem_singleton.1 (show c ∈ [Value.int .i64 x.1.wt] from hc)]; rfl) (Nat.le_trans (Below.size kE9) (Below.size hE185)) (by rw [rawW_len]; omega) rfl (fun vw2 w10 hN hG hAt => ?_)
                have kF10 : Keep (w10.ownsRow w6.heap.size 44 33 vf1 (fsK es o0.1.pri n i).length ((fsK es o0.1.pri n i).flatMap cel)) := own_beside (own_ext kO2 hE185) o3 hG
                have o4 := own_apart (own_ext kO2 hE185) o3 hAt
                have hsn : rawW (fsK es o0.1.pri n i) ++ [x.1.wt] = rawW (fsK es o0.1.pri n (i + 1)) := by rw [fsK_hit hx hsel]; simp [rawW]
                have kW10 : Keep (w10.ownsRow w6.heap.size 3 1 vw2 (rawW (fsK es o0.1.pri n (i + 1))).length (ints (rawW (fsK es o0.1.pri n (i + 1))))) := by
                  rw [← hsn, List.length_append]
                  have e1 : ints (rawW (fsK es o0.1.pri n i) ++ [x.1.wt]) = ints (rawW (fsK es o0.1.pri n i)) ++ ints [x.1.wt] := by simp [ints]
                  rw [e1]; exact hN
                have kE10 : Keep (Ext w6 w10) := Ext.own (Ext.trans kE9 hE185) (own_ext o1 hE185) (Nat.le_refl _) hG
                have hE0 := Ext.trans (Ext.trans kEw kEt) kE10
                have hE10r := Ext.refl w10
                have hrx := hrowL hE0 hx
                clear hN hG hAt o1 o2 o3 kO2
                refine Seg.step rfl rfl (Yd.assign rfl) ?_
                refine Seg.nil ?_
                refine At.then_ ?_
                refine Cd.seq ?_
                refine Cd.region ?_
                refine Seg.step rfl rfl (Yd.move rfl) ?_
                refine Seg.step rfl rfl (Yd.move rfl) ?_
                refine Seg.step rfl rfl (Yd.move rfl) ?_
                refine Seg.step rfl rfl (Yd.indexAddr rfl rfl rfl (NatOf.cast _) (by omega)) ?_
                refine Seg.step rfl rfl (Yd.loadN rfl rfl rfl hrx) ?_
                refine Seg.buildSliceV rfl rfl rfl rfl rfl rfl rfl rfl rfl rfl (fun w196 b196 hE196 hB196 hb196 hO196 => ?_)
                have hlt196_0 := Nat.le_trans hE0.size hb196
                have hlt196_1 := Nat.le_trans hE10r.size hb196
                replace hE0 := Ext.trans hE0 hE196
                replace hE10r := Ext.trans hE10r hE196
                replace hrx := hrx.ext hE196
                have hE196 : Ext w10 w196 := by assumption
                have hl11 : fsK es o0.1.pri n (i + 1) = fsK es o0.1.pri n i ++ [x] := fsK_hit hx hsel
                have htb := hsum_bd (rawW (fsK es o0.1.pri n i)) (by rw [rawW_len]; omega) (rawW (fsK es o0.1.pri n i)).length
                have htb' : 0 ≤ totK (fsK es o0.1.pri n i) ∧ totK (fsK es o0.1.pri n i) ≤ 1099511627776 := htb
                have hhb := heldI_bd x.1.wt
                have he : (if (2147483648 : Int) < (if x.1.wt < (0 : Int) then 0 else x.1.wt) then 2147483648 else (if x.1.wt < (0 : Int) then 0 else x.1.wt)) = heldI x.1.wt := by
                  unfold heldI
                  split <;> split <;> omega
                have htot : totK (fsK es o0.1.pri n (i + 1)) = totK (fsK es o0.1.pri n i) + (if (2147483648 : Int) < (if x.1.wt < (0 : Int) then 0 else x.1.wt) then 2147483648 else (if x.1.wt < (0 : Int) then 0 else x.1.wt)) := by rw [hl11, totK_snoc, he]
                refine Seg.appendAt (xs := (fsK es o0.1.pri n i).flatMap cel) (news := cel x) (m' := 1) rfl rfl rfl rfl rfl rfl rfl rfl rfl (own_ext kF10 hE196) (own_sl (by assumption)) (celOne x) (Nat.le_trans (Below.size kE10) (Below.size hE196)) (by omega) rfl (fun vf2 w12 hN hG hAt => ?_)
                have kI12 : Keep (KpI w6 w12 (fsK es o0.1.pri n (i + 1)) ⟨vw2, vf2⟩) := by
                  refine ⟨own_beside (own_ext kW10 hE196) (fun r h1 h2 => o4 r h2 h1) hG, ?_, fun r h1 h2 => own_apart (own_ext kW10 hE196) (fun r h1 h2 => o4 r h2 h1) hAt r h2 h1⟩
                  rw [hl11]
                  have e1 : (fsK es o0.1.pri n i ++ [x]).length = (fsK es o0.1.pri n i).length + 1 := by rw [List.length_append]; rfl
                  have e2 : (fsK es o0.1.pri n i ++ [x]).flatMap cel = (fsK es o0.1.pri n i).flatMap cel ++ cel x := by rw [List.flatMap_append]; simp
                  rw [e1, e2]; exact hN
                have kE12 : Keep (Ext w6 w12) := Ext.own (Ext.trans kE10 hE196) (own_ext kF10 hE196) (Nat.le_refl _) hG
                have hE0 := Ext.trans (Ext.trans kEw kEt) kE12
                have hE12r := Ext.refl w12
                have hrx := hrowL hE0 hx
                clear hN hG hAt o4 htb
                refine Seg.step rfl rfl (Yd.assign rfl) ?_
                refine Seg.nil ?_
                refine At.then_ ?_
                refine Cd.region ?_
                refine Seg.step rfl rfl (Yd.move rfl) ?_
                refine Seg.step rfl rfl (Yd.move rfl) ?_
                refine Seg.step rfl rfl (Yd.move rfl) ?_
                refine Seg.step rfl rfl (Yd.indexAddr rfl rfl rfl (NatOf.cast _) (by omega)) ?_
                refine Seg.step rfl rfl (Yd.fieldAddr rfl rfl) ?_
                refine Seg.step rfl rfl (Yd.load1 rfl rfl (hrx 25 (.int .i64 x.1.wt) rfl)) ?_
                (refine Seg.step rfl rfl (Yd.max2N rfl rfl) ?_)
                refine Seg.step rfl rfl (Yd.min2 rfl rfl) ?_
                refine Seg.step rfl rfl (Yd.addI rfl rfl (by omega)) ?_
                refine Seg.step rfl rfl (Yd.assign rfl) ?_
                refine Seg.nil ?_
                refine At.blk ?_
                refine At.then_ ?_
                refine Cd.region ?_
                refine Seg.step rfl rfl (Yd.move rfl) ?_
                refine Seg.step rfl rfl (Yd.addI rfl rfl (by omega)) ?_
                refine Seg.step rfl rfl (Yd.assign rfl) ?_
                refine Seg.nil ?_
                exact At.round (⟨vw2, vf2⟩, i + 1) (by rw [htot]; exact (.cons rfl (.cons rfl (.cons rfl (.cons rfl (.cons rfl (.cons rfl (.cons rfl (.cons rfl (.nil _)))))))))) ⟨hlt9, KpI.ext kI12 hE12r, Ext.trans kE12 hE12r⟩ (Nat.sub_lt_sub_left hlt9 (Nat.lt_succ_self i))
              · have hms : ¬ selK o0.1.pri n x = true := fun h => hz ((selK_iff hlt2).1 h).2
                refine Cd.seq ?_
                refine Cd.seq ?_
                refine Cd.region ?_
                refine Seg.step rfl rfl (Yd.move rfl) ?_
                refine Seg.step rfl rfl (Yd.move rfl) ?_
                refine Seg.step rfl rfl (Yd.lenS rfl rfl) ?_
                refine Seg.step rfl rfl (Yd.lss rfl rfl) ?_
                refine Seg.nil ?_
                refine At.then_ ?_
                refine Cd.condk rfl (fun h142 => ?_) (fun h142 => ?_)
                · refine Cd.skip ?_
                  refine At.then_ ?_
                  refine Cd.seq ?_
                  refine Cd.block ?_
                  refine Cd.seq ?_
                  refine Cd.quiet (by kernel_rfl) (by kernel_rfl) ?_
                  refine SegQ.step rfl rfl (fun w' hw' => Yd.move rfl) ?_
                  refine SegQ.step rfl rfl (fun w' hw' => Yd.move rfl) ?_
                  refine SegQ.step rfl rfl (fun w' hw' => Yd.indexAddr rfl rfl rfl (NatOf.cast _) (by omega)) ?_
                  refine SegQ.step rfl rfl (fun w' hw' => Yd.fieldAddr rfl rfl) ?_
                  refine SegQ.step rfl rfl (fun w' hw' => Yd.load1 rfl rfl ((hrx.ext hw') _ _ rfl)) ?_
                  refine SegQ.step rfl rfl (fun w' hw' => Yd.move rfl) ?_
                  refine SegQ.step rfl rfl (fun w' hw' => Yd.indexAddr rfl rfl rfl (NatOf.cast 0) (by omega)) ?_
                  refine SegQ.step rfl rfl (fun w' hw' => Yd.fieldAddr' rfl rfl) ?_
                  refine SegQ.step rfl rfl (fun w' hw' => Yd.load1 rfl rfl ((hr0.ext hw') _ _ rfl)) ?_
                  refine SegQ.step rfl rfl (fun w' hw' => Yd.eql rfl rfl) ?_
                  refine SegQ.step rfl rfl (fun w' hw' => Yd.move rfl) ?_
                  refine SegQ.gsplitp rfl rfl (fun h161 => ?_) (fun h161 => ?_)
                  · refine SegQ.step rfl rfl (fun w' hw' => Yd.move rfl) ?_
                    refine SegQ.step rfl rfl (fun w' hw' => Yd.move rfl) ?_
                    refine SegQ.step rfl rfl (fun w' hw' => Yd.indexAddr rfl rfl rfl (NatOf.cast _) (by omega)) ?_
                    refine SegQ.step rfl rfl (fun w' hw' => Yd.fieldAddr rfl rfl) ?_
                    refine SegQ.step rfl rfl (fun w' hw' => Yd.load1 rfl rfl ((hrx.ext hw') _ _ rfl)) ?_
                    refine SegQ.step rfl rfl (fun w' hw' => Yd.leq rfl rfl) ?_
                    refine SegQ.step rfl rfl (fun w' hw' => Yd.move rfl) ?_
                    refine SegQ.step rfl rfl (fun w' hw' => Yd.eql rfl rfl) ?_
                    refine SegQ.step rfl rfl (fun w' hw' => Yd.eqlB rfl rfl rfl) ?_
                    refine SegQ.step rfl rfl (fun w' hw' => Yd.pickT rfl rfl) ?_
                    refine SegQ.nil fun w173 hE173 => ?_
                    replace hE9 := Ext.trans hE9 hE173
                    replace hE0 := Ext.trans hE0 hE173
                    replace hE9r := Ext.trans hE9r hE173
                    replace hrx := hrx.ext hE173
                    replace hr0 := hr0.ext hE173
                    refine At.then_ ?_
                    refine Cd.condk rfl (fun h175 => ?_) (fun h175 => ?_)
                    · contradiction
                    · refine Cd.skip ?_
                      refine At.blk ?_
                      refine At.then_ ?_
                      refine Cd.region ?_
                      refine Seg.step rfl rfl (Yd.move rfl) ?_
                      refine Seg.step rfl rfl (Yd.addI rfl rfl (by omega)) ?_
                      refine Seg.step rfl rfl (Yd.assign rfl) ?_
                      refine Seg.nil ?_
                      exact At.round (⟨vw1, vf1⟩, i + 1) (by rw [fsK_miss hx hms]; exact (.cons rfl (.cons rfl (.cons rfl (.cons rfl (.cons rfl (.cons rfl (.cons rfl (.cons rfl (.nil _)))))))))) ⟨hlt9, by rw [fsK_miss hx hms]; exact KpI.ext kI9 hE9r, hE9⟩ (Nat.sub_lt_sub_left hlt9 (Nat.lt_succ_self i))
                  · exfalso; omega
                · exfalso; omega
            · have hms : ¬ selK o0.1.pri n x = true := fun h => hp ((selK_iff hlt2).1 h).1
              refine Cd.seq ?_
              refine Cd.seq ?_
              refine Cd.region ?_
              refine Seg.step rfl rfl (Yd.move rfl) ?_
              refine Seg.step rfl rfl (Yd.move rfl) ?_
              refine Seg.step rfl rfl (Yd.lenS rfl rfl) ?_
              refine Seg.step rfl rfl (Yd.lss rfl rfl) ?_
              refine Seg.nil ?_
              refine At.then_ ?_
              refine Cd.condk rfl (fun h142 => ?_) (fun h142 => ?_)
              · refine Cd.skip ?_
                refine At.then_ ?_
                refine Cd.seq ?_
                refine Cd.block ?_
                refine Cd.seq ?_
                refine Cd.quiet (by kernel_rfl) (by kernel_rfl) ?_
                refine SegQ.step rfl rfl (fun w' hw' => Yd.move rfl) ?_
                refine SegQ.step rfl rfl (fun w' hw' => Yd.move rfl) ?_
                refine SegQ.step rfl rfl (fun w' hw' => Yd.indexAddr rfl rfl rfl (NatOf.cast _) (by omega)) ?_
                refine SegQ.step rfl rfl (fun w' hw' => Yd.fieldAddr rfl rfl) ?_
                refine SegQ.step rfl rfl (fun w' hw' => Yd.load1 rfl rfl ((hrx.ext hw') _ _ rfl)) ?_
                refine SegQ.step rfl rfl (fun w' hw' => Yd.move rfl) ?_
                refine SegQ.step rfl rfl (fun w' hw' => Yd.indexAddr rfl rfl rfl (NatOf.cast 0) (by omega)) ?_
                refine SegQ.step rfl rfl (fun w' hw' => Yd.fieldAddr' rfl rfl) ?_
                refine SegQ.step rfl rfl (fun w' hw' => Yd.load1 rfl rfl ((hr0.ext hw') _ _ rfl)) ?_
                refine SegQ.step rfl rfl (fun w' hw' => Yd.eql rfl rfl) ?_
                refine SegQ.step rfl rfl (fun w' hw' => Yd.move rfl) ?_
                refine SegQ.gsplitp rfl rfl (fun h161 => ?_) (fun h161 => ?_)
                · exfalso; omega
                · refine SegQ.skip rfl rfl ?_
                  refine SegQ.skip rfl rfl ?_
                  refine SegQ.skip rfl rfl ?_
                  refine SegQ.skip rfl rfl ?_
                  refine SegQ.skip rfl rfl ?_
                  refine SegQ.skip rfl rfl ?_
                  refine SegQ.skip rfl rfl ?_
                  refine SegQ.skip rfl rfl ?_
                  refine SegQ.skip rfl rfl ?_
                  refine SegQ.step rfl rfl (fun w' hw' => Yd.pickF rfl rfl) ?_
                  refine SegQ.nil fun w173 hE173 => ?_
                  replace hE9 := Ext.trans hE9 hE173
                  replace hE0 := Ext.trans hE0 hE173
                  replace hE9r := Ext.trans hE9r hE173
                  replace hrx := hrx.ext hE173
                  replace hr0 := hr0.ext hE173
                  refine At.then_ ?_
                  refine Cd.condF rfl ?_
                  refine Cd.skip ?_
                  refine At.blk ?_
                  refine At.then_ ?_
                  refine Cd.region ?_
                  refine Seg.step rfl rfl (Yd.move rfl) ?_
                  refine Seg.step rfl rfl (Yd.addI rfl rfl (by omega)) ?_
                  refine Seg.step rfl rfl (Yd.assign rfl) ?_
                  refine Seg.nil ?_
                  exact At.round (⟨vw1, vf1⟩, i + 1) (by rw [fsK_miss hx hms]; exact (.cons rfl (.cons rfl (.cons rfl (.cons rfl (.cons rfl (.cons rfl (.cons rfl (.cons rfl (.nil _)))))))))) ⟨hlt9, by rw [fsK_miss hx hms]; exact KpI.ext kI9 hE9r, hE9⟩ (Nat.sub_lt_sub_left hlt9 (Nat.lt_succ_self i))
              · exfalso; omega
          · obtain rfl : i = es.length := by omega
            rw [fsK_all] at kI9 ⊢
            refine Cd.seq ?_
            refine Cd.seq ?_
            refine Cd.region ?_
            refine Seg.step rfl rfl (Yd.move rfl) ?_
            refine Seg.step rfl rfl (Yd.move rfl) ?_
            refine Seg.step rfl rfl (Yd.lenS rfl rfl) ?_
            refine Seg.step rfl rfl (Yd.lss rfl rfl) ?_
            refine Seg.nil ?_
            refine At.then_ ?_
            refine Cd.condk rfl (fun h142 => ?_) (fun h142 => ?_)
            · exfalso; omega
            · refine Cd.exit ?_
              refine At.then_exit ?_
              refine At.then_exit ?_
              refine At.blk_same ?_
              refine At.blk ?_
              refine At.then_ ?_
              refine Cd.region ?_
              refine Seg.step rfl rfl (Yd.move rfl) ?_
              refine Seg.step rfl rfl (Yd.addI rfl rfl (by omega)) ?_
              refine Seg.step rfl rfl (Yd.assign rfl) ?_
              refine Seg.nil ?_
              exact At.round (⟨vw1, vf1⟩, n + 1) (.cons rfl (.cons rfl (.cons rfl (.cons rfl (.cons rfl (.cons rfl (.cons rfl (.nil _)))))))) ⟨hlt2, KpI.ext kI9 hE9r, hE9⟩ (Nat.sub_lt_sub_left hlt2 (Nat.lt_succ_self n))
        · obtain rfl : n = 2 := by omega
          rw [accK_two] at kI8 ⊢
          have hE0 := Ext.trans (Ext.trans kEw kEt) kE8
          have hE8r := Ext.refl w8
          cases Y with
          | nil => exact absurd (by rw [hO]; rfl) hO0
          | cons y Y' =>
            have hh0 := ordG_head (o := some (ds, 0)) hY hYs
            rw [← hO, ho0] at hh0
            have hmem := List.mem_of_getElem? hh0.symm
            have hpri : o0.1.pri = y.1.pri := by
              unfold firstL key heldI at hmem
              rcases List.mem_append.1 hmem with h | h <;> have := of_decide_eq_true (List.mem_filter.1 h).2 <;> omega
            rw [← hpri] at hh0
            have hkF := (List.getElem?_eq_some_iff.1 hh0.symm).1
            have hnp := nxt_pick (o := some (ds, 0)) (V := rawW (firstL es o0.1.pri)) (by rw [rawW_len]; omega)
            have hwr : (rawW (firstL es o0.1.pri)).map heldI = wts (firstL es o0.1.pri) := by simp [rawW, wts]
            rw [hwr] at hnp
            obtain ⟨o1, o2, o3⟩ := id kI8
            simp only at o1 o2 o3
            have htb := hsum_bd (rawW (firstL es o0.1.pri)) (by rw [rawW_len]; exact Nat.le_trans (by rw [← accK_two, ← fsK_all]; exact fsK_len (Nat.le_refl 1)) (show 2 * es.length ≤ 200 by omega)) (rawW (firstL es o0.1.pri)).length
            have htb' : 0 ≤ totK (firstL es o0.1.pri) ∧ totK (firstL es o0.1.pri) ≤ 1099511627776 := htb
            have hFl : (rawW (firstL es o0.1.pri)).length ≤ 200 := by rw [rawW_len]; exact Nat.le_trans (by rw [← accK_two, ← fsK_all]; exact fsK_len (Nat.le_refl 1)) (show 2 * es.length ≤ 200 by omega)
            have hvw : ∀ r, vw.ownBlock = some r → r < w8.heap.size := fun r h => (World.ownsRow.lt kI8.1 r h).2
            have hvf : ∀ r, vf.ownBlock = some r → r < w8.heap.size := fun r h => (World.ownsRow.lt kI8.2.1 r h).2
            have hF0 : 0 < (firstL es o0.1.pri).length := by omega
            obtain ⟨g, cf, zs, rfl, hg6, _⟩ := own_bx kI8.2.1 hF0
            refine Cd.seq ?_
            refine Cd.seq ?_
            refine Cd.region ?_
            refine Seg.step rfl rfl (Yd.move rfl) ?_
            refine Seg.step rfl rfl (Yd.lss rfl rfl) ?_
            refine Seg.nil ?_
            refine At.then_ ?_
            refine Cd.condF rfl ?_
            refine Cd.exit ?_
            refine At.then_exit ?_
            refine At.then_exit ?_
            refine At.blk_same ?_
            refine At.then_ ?_
            refine Cd.seq ?_
            refine Cd.region ?_
            refine Seg.step rfl rfl (Yd.move rfl) ?_
            refine Seg.step rfl rfl (Yd.buildT (cs := _ :: _ :: []) 2 rfl rfl rfl rfl rfl) ?_
            refine Seg.box rfl rfl rfl (fun w142 b142 hE142 hB142 hb142 => ?_)
            have hlt142_0 := Nat.le_trans hE8.size hb142
            have hlt142_1 := Nat.le_trans hE0.size hb142
            have hlt142_2 := Nat.le_trans hE8r.size hb142
            replace hE8 := Ext.trans hE8 hE142
            replace hE0 := Ext.trans hE0 hE142
            replace hE8r := Ext.trans hE8r hE142
            replace o1 := own_ext o1 hE142
            replace o2 := own_ext o2 hE142
            refine Seg.step rfl rfl (Yd.assign rfl) ?_
            refine Seg.nil ?_
            refine At.then_ ?_
            refine Cd.seq ?_
            have hdb : (Addr.add d 0).block ≠ b142 := fun e => by
              have h1 := cell_lt (hrow0 (Ext.refl w6) 24 (.int .i64 o0.1.pri) rfl)
              have h2 : ((Addr.add d 0).add 24).block = (Addr.add d 0).block := by unfold Addr.add; split <;> rfl
              rw [h2, e] at h1
              omega
            refine Cd.heldB b142 14 (by kernel_rfl) (fun w13 hE13 => ?_)
            have hr0 := hrow0 (Ext.trans hE8 hE13)
            have hE0 := Ext.trans hE0 hE13
            have hB13 : Bx w13 b142 [.slice ad ds.length cd, .int .i64 (0 : Nat)] := hB142.ext hE13
            have hD13 := Sl.ext kD hE0
            have o1 := own_ext o1 hE13
            have o2 := own_ext o2 hE13
            refine SegB.take 0 rfl (by kernel_rfl) (by kernel_rfl) (by kernel_rfl) (by kernel_rfl) (by kernel_rfl) rfl rfl (fun w' hw' => Yd.move rfl) ?_
            refine SegB.take 1 rfl (by kernel_rfl) (by kernel_rfl) (by kernel_rfl) (by kernel_rfl) (by kernel_rfl) rfl rfl (fun w' hw' => Yd.indexAddr rfl rfl rfl (NatOf.cast 0) (by omega)) ?_
            refine SegB.take 2 rfl (by kernel_rfl) (by kernel_rfl) (by kernel_rfl) (by kernel_rfl) (by kernel_rfl) rfl rfl (fun w' hw' => Yd.loadN rfl rfl rfl (Row.wr hr0 hw' hdb)) ?_
            refine SegB.take 3 rfl (by kernel_rfl) (by kernel_rfl) (by kernel_rfl) (by kernel_rfl) (by kernel_rfl) rfl rfl (fun w' hw' => Yd.move rfl) ?_
            refine SegB.take 4 rfl (by kernel_rfl) (by kernel_rfl) (by kernel_rfl) (by kernel_rfl) (by kernel_rfl) rfl rfl (fun w' hw' => Yd.move rfl) ?_
            refine SegB.take 5 rfl (by kernel_rfl) (by kernel_rfl) (by kernel_rfl) (by kernel_rfl) (by kernel_rfl) rfl rfl (fun w' hw' => Yd.move rfl) ?_
            refine SegB.take 6 rfl (by kernel_rfl) (by kernel_rfl) (by kernel_rfl) (by kernel_rfl) (by kernel_rfl) rfl rfl (fun w' hw' => Yd.move rfl) ?_
            refine SegB.take 7 rfl (by kernel_rfl) (by kernel_rfl) (by kernel_rfl) (by kernel_rfl) (by kernel_rfl) rfl rfl (fun w' hw' => Yd.addI rfl rfl (by omega)) ?_
            refine SegB.oneSeg (o := ⟨_, _, _, _, _, _⟩) 8 rfl (by kernel_rfl) ?_
            refine Seg.call rfl rfl (own_of rfl) rfl (rdraw_pos b142 ds 0 _ _ _ (by omega) (by omega) (by decide) hB13 hD13) ?_
            rintro _ w14 ⟨rfl, hW14, _⟩
            refine SegB.back rfl hW14 ?_
            have hE0 := Ext.wr' hE0 hW14 hlt142_1
            have o1 := own_wr o1 hW14 (fun h => by have := hvw _ h; omega)
            have o2 := own_wr o2 hW14 (fun h => by have := hvf _ h; omega)
            refine SegB.oneSeg (o := ⟨_, _, _, _, _, _⟩) 9 rfl (by kernel_rfl) ?_
            refine Seg.call rfl rfl (own_of rfl) rfl (rpick_any (rawW (firstL es o0.1.pri)) vw _ w14 (own_sl o1) hFl) ?_
            rintro _ w16 ⟨rfl, hE16⟩
            refine SegB.back rfl (Ext.wr hE16 _) ?_
            have hE0 := Ext.trans hE0 hE16
            have o2 := own_ext o2 hE16
            have hnp' : wpick (rawW (firstL es o0.1.pri)) (drawVal ds 0 (totK (firstL es o0.1.pri) + 1)) = (nxt (some (ds, 0)) 0 (wts (firstL es o0.1.pri)) [] : Nat) := hnp
            rw [hnp']
            refine SegB.oneSeg (o := ⟨_, _, _, _, _, _⟩) 10 rfl (by kernel_rfl) ?_
            refine Seg.step rfl rfl (Yd.indexAddr rfl rfl rfl (NatOf.cast _) hkF) ?_
            refine SegB.back rfl (Ext.wr (Ext.refl _) _) ?_
            have hrF : Row w16 (Addr.add ⟨g, 0, none⟩ (nxt (some (ds, 0)) 0 (wts (firstL es o0.1.pri)) [] * 33)) (cel o0) := by
              obtain ⟨ao', c', e, _, hr, _⟩ := own_sl o2
              cases e
              exact flat_row (cel := cel) (zs := []) celK (by simpa using hr _ rfl) hh0.symm
            refine SegB.oneSeg (o := ⟨_, _, _, _, _, _⟩) 11 rfl (by kernel_rfl) ?_
            refine Seg.step rfl rfl (Yd.loadN rfl rfl rfl hrF) ?_
            refine SegB.back rfl (Ext.wr (Ext.refl _) _) ?_
            refine SegB.oneSeg (o := ⟨_, _, _, _, _, _⟩) 12 rfl (by kernel_rfl) ?_
            have ho0r := hOR o0 (List.mem_of_getElem? ho0)
            refine Seg.call rfl rfl (own_of rfl) rfl (same13 o0.1 o0.1 w16 ((kR.2 _ ho0r).ext hE0) ((kR.2 _ ho0r).ext hE0) (hfit _ ho0r) (hw _ ho0r) (hw _ ho0r)) ?_
            rintro _ w17 ⟨⟨bb, rfl, hbb⟩, hE17⟩
            obtain rfl : bb = true := hbb.2 rfl
            have hE0 := Ext.trans hE0 hE17
            refine SegB.back rfl (Ext.wr hE17 _) ?_
            refine SegB.oneSeg (o := ⟨_, _, _, _, _, _⟩) 13 rfl (by kernel_rfl) ?_
            refine Seg.step rfl rfl (Yd.assign rfl) ?_
            refine SegB.back rfl (Ext.wr (Ext.refl _) _) ?_
            refine SegB.done (by kernel_rfl) ?_
            refine At.then_ ?_
            refine Cd.ret ?_
            exact At.ret Try.results5 (.tmp rfl .nil) ⟨rfl, by assumption⟩
  · refine Cd.seq ?_
    refine Cd.region ?_
    refine Seg.step rfl rfl (Yd.assign rfl) ?_
    refine Seg.nil ?_
    refine At.then_ ?_
    refine Cd.seq ?_
    refine Cd.seq ?_
    refine Cd.region ?_
    (refine Seg.call rfl rfl (own_of rfl) rfl (works41 _) ?_; rintro _ w11 ⟨rfl, hE11⟩)
    replace hE0 := Ext.trans hE0 hE11
    replace h1 := h1.ext hE11
    replace h0 := h0.ext hE11
    refine Seg.step rfl rfl (Yd.not rfl) ?_
    refine Seg.step rfl rfl (Yd.move rfl) ?_
    refine Seg.step rfl rfl (Yd.move rfl) ?_
    (refine Seg.call rfl rfl (own_of rfl) rfl (small26 rs _ _ h0 hh) ?_; rintro _ w15 ⟨⟨sm, rfl, hsm⟩, hE15⟩)
    replace hE11 := Ext.trans hE11 hE15
    replace hE0 := Ext.trans hE0 hE15
    replace h1 := h1.ext hE15
    replace h0 := h0.ext hE15
    refine Seg.step rfl rfl (Yd.not rfl) ?_
    refine Seg.step rfl rfl (Yd.pickF rfl rfl) ?_
    refine Seg.step rfl rfl (Yd.move rfl) ?_
    refine Seg.gsplit rfl rfl (fun h19 => ?_) (fun h19 => ?_)
    · refine Seg.skip rfl rfl ?_
      refine Seg.skip rfl rfl ?_
      refine Seg.skip rfl rfl ?_
      refine Seg.step rfl rfl (Yd.pickT rfl rfl) ?_
      refine Seg.nil ?_
      refine At.then_ ?_
      refine Cd.condT rfl ?_
      refine Cd.seq ?_
      refine Cd.region ?_
      (refine Seg.call rfl rfl (own_of rfl) rfl (works41 _) ?_; rintro _ w30 ⟨rfl, hE30⟩)
      replace hE15 := Ext.trans hE15 hE30
      replace hE11 := Ext.trans hE11 hE30
      replace hE0 := Ext.trans hE0 hE30
      replace h1 := h1.ext hE30
      replace h0 := h0.ext hE30
      refine Seg.step rfl rfl (Yd.assign rfl) ?_
      refine Seg.nil ?_
      refine At.then_ ?_
      refine Cd.ret ?_
      refine At.then_ret ?_
      exact At.ret Try.results5 (.tmp rfl .nil) ⟨rfl, by assumption⟩
    · refine Seg.step rfl rfl (Yd.move rfl) ?_
      refine Seg.step rfl rfl (Yd.lenS rfl rfl) ?_
      refine Seg.step rfl rfl (Yd.gtr rfl rfl) ?_
      refine Seg.step rfl rfl (Yd.pickF rfl rfl) ?_
      refine Seg.nil ?_
      refine At.then_ ?_
      refine Cd.condk rfl (fun h44 => ?_) (fun h44 => ?_)
      · refine Cd.seq ?_
        refine Cd.region ?_
        (refine Seg.call rfl rfl (own_of rfl) rfl (works41 _) ?_; rintro _ w48 ⟨rfl, hE48⟩)
        replace hE15 := Ext.trans hE15 hE48
        replace hE11 := Ext.trans hE11 hE48
        replace hE0 := Ext.trans hE0 hE48
        replace h1 := h1.ext hE48
        replace h0 := h0.ext hE48
        refine Seg.step rfl rfl (Yd.assign rfl) ?_
        refine Seg.nil ?_
        refine At.then_ ?_
        refine Cd.ret ?_
        refine At.then_ret ?_
        exact At.ret Try.results5 (.tmp rfl .nil) ⟨rfl, by assumption⟩
      · exfalso; omega
end Go.Proofs.Ytccppgpedlfjdaa
