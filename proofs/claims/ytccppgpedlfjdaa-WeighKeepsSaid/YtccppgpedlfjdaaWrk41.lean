/- The law's own check of weighed orders. -/
import Derived.Test.YtccppgpedlfjdaaWth
namespace Go.Proofs.Ytccppgpedlfjdaa
open Go Go.RowKit
theorem order_lot (a0 : World) (xs : List El) (v0 : Value) (ds : List Int) (F : Nat → Prop) (b : Nat) (w : World) (h0 : Sl w 33 v0 xs.length (xs.flatMap cel)) (hx : xs.length ≤ 60) (hL : LotAt w F b ds 0) (hF : ∀ x, F x → x < w.heap.size) (ha0 : Ext a0 w) (hab : a0.heap.size ≤ b) :
    Ret Try.prog 14 #[v0, .pointer (some ⟨b, 0, none⟩)] w fun v w' => ∃ Y, Srtd key Y ∧ SameBy key xs Y ∧ w'.ownsRow w.heap.size 44 33 v (ordG (some (ds, 0)) Y.length Y).length ((ordG (some (ds, 0)) Y.length Y).flatMap cel) ∧ Kept (fun r => r = b) (fun r => r = b ∨ ownP v r) w w' ∧ Ext a0 w' := by
  obtain ⟨h1, vx, h2, h3, h4, h5⟩ := hL
  have hoff : OffP (fun r => r = b) vx := fun p m c e hm hp => h4 p m c e hm hp
  exact order_any (some (ds, 0)) a0 xs v0 vx _ b w h0 hx (hF b h1) ⟨rfl, h2, h3, hoff, by decide⟩ (fun xs' u h => by cases h; decide) (fun p m c e hm hp => absurd (hF _ (h5 p m c e hm)) (by omega)) hoff ha0 hab
section
variable {E : Type} {key : E → Int}
theorem srt_split : ∀ {Y : List E} {n : Int}, Srtd key Y → (∀ y ∈ Y, key y ≤ n) → Y = Y.filter (fun y => decide (key y < n)) ++ Y.filter (fun y => decide (key y = n))
  | [], _, _, _ => rfl
  | y :: Y, n, h, hn => by
    have hy := hn y (by simp)
    have ih := srt_split (List.pairwise_cons.1 h).2 (fun z hz => hn z (by simp [hz]))
    by_cases hc : key y = n
    · have h1 : ∀ z ∈ Y, key z = n := fun z hz => by
        have := (List.pairwise_cons.1 h).1 z hz
        have := hn z (by simp [hz])
        omega
      have h2 : Y.filter (fun z => decide (key z < n)) = [] := by
        rw [List.filter_eq_nil_iff]; intro z hz; have := h1 z hz; simp; omega
      have h3 : Y.filter (fun z => decide (key z = n)) = Y := by
        rw [List.filter_eq_self]; intro z hz; simpa using h1 z hz
      rw [List.filter_cons, List.filter_cons, if_neg (by simp; omega), if_pos (by simpa using hc), h2, h3]; rfl
    · rw [List.filter_cons, List.filter_cons, if_pos (by simp; omega), if_neg (by simpa using hc), List.cons_append, ← ih]
theorem srt_flat : ∀ (n : Nat) {Y : List E}, Srtd key Y → (∀ y ∈ Y, 0 ≤ key y ∧ key y < n) → Y = (List.range n).flatMap fun k : Nat => Y.filter fun y => decide (key y = (k : Int))
  | 0, [], _, _ => rfl
  | 0, y :: Y, _, hn => by have := hn y (by simp); omega
  | n + 1, Y, h, hn => by
    have h1 := srt_split (n := n) h (fun y hy => by have := hn y hy; omega)
    have h2 : Srtd key (Y.filter fun y => decide (key y < (n : Int))) := h.filter _
    have ih := srt_flat n h2 (fun y hy => by
      have := List.mem_filter.1 hy
      have h3 := hn y this.1
      have h4 := of_decide_eq_true this.2
      omega)
    have h5 : ∀ k ∈ List.range n, (Y.filter fun y => decide (key y < (n : Int))).filter (fun y => decide (key y = (k : Int))) = Y.filter fun y => decide (key y = (k : Int)) := fun k hk => by
      have := List.mem_range.1 hk
      rw [List.filter_filter]
      apply List.filter_congr
      intro y _
      by_cases hc : key y = (k : Int)
      · simp [hc]; omega
      · simp [hc]
    rw [List.range_succ, List.flatMap_append, List.flatMap_cons, List.flatMap_nil, List.append_nil]
    conv => lhs; rw [h1]
    congr 1
    conv => lhs; rw [ih]
    rw [List.flatMap_def, List.flatMap_def, List.map_congr_left h5]
end
def mkR (p q : Int) : El := ⟨{ nm := [], tg := [], ml := [], vn := .slice none 0 0, vt := .slice none 0 0, vm := .slice none 0 0, ty := 0, cl := 0, ttl := 0, fam := 0, zone := 0, pri := p, wt := q, pt := 0, raw := [], i0 := 0, i1 := 0, i2 := 0, i3 := 0, i4 := 0, i5 := 0, i6 := 0, i7 := 0, i8 := 0, i9 := 0, i10 := 0, i11 := 0, i12 := 0, i13 := 0, i14 := 0, i15 := 0, m0 := 0, m1 := 0, m2 := 0, m3 := 0, m4 := 0 }, rfl, rfl, rfl⟩
def xsW : List El := [mkR 2 0, mkR 1 5, mkR 1 0]
theorem xsW_key : ∀ y ∈ xsW, 0 ≤ key y ∧ key y < (6 : Nat) := by
  intro y hy
  simp only [xsW, List.mem_cons, List.not_mem_nil, or_false] at hy
  rcases hy with rfl | rfl | rfl <;> exact ⟨by decide, by decide⟩
theorem xsW_srt {Y : List El} (h : Srtd key Y) (k : SameBy key xsW Y) : Y = [mkR 1 0, mkR 1 5, mkR 2 0] := by
  have h1 := srt_flat (key := key) 6 h (fun y hy => xsW_key y (k.mem.2 hy))
  have h2 : (List.range 6).flatMap (fun j : Nat => Y.filter fun y => decide (key y = (j : Int))) = (List.range 6).flatMap (fun j : Nat => xsW.filter fun y => decide (key y = (j : Int))) := by
    congr 1
    funext j
    exact (k j).symm
  have h3 : (List.range 6).flatMap (fun j : Nat => xsW.filter fun y => decide (key y = (j : Int))) = [mkR 1 0, mkR 1 5, mkR 2 0] := by kernel_rfl
  exact h1.trans (h2.trans h3)
theorem xsW_ord : ordG (some ([3], 0)) 3 [mkR 1 0, mkR 1 5, mkR 2 0] = [mkR 1 5, mkR 1 0, mkR 2 0] := by kernel_rfl
theorem works41 (w : World) : Ret Try.prog 12 #[] w fun v w' => v = .bool true ∧ Ext w w' := by
  have hE0 := Ext.refl w
  refine Ret.body (args := []) Try.func12 rfl Try.ntmps12 rfl ?_
  refine Cd.seq ?_
  refine Cd.region ?_
  refine Seg.step rfl rfl (Yd.assign rfl) ?_
  refine Seg.nil ?_
  refine At.then_ ?_
  refine Cd.seq ?_
  refine Cd.region ?_
  refine Seg.step rfl rfl (Yd.buildT (cs := _ :: _ :: _ :: _ :: _ :: _ :: _ :: _ :: _ :: _ :: _ :: _ :: _ :: _ :: _ :: _ :: _ :: _ :: _ :: _ :: _ :: _ :: _ :: _ :: _ :: _ :: _ :: _ :: _ :: _ :: _ :: _ :: _ :: []) 33 rfl rfl rfl rfl rfl) ?_
  refine Seg.step rfl rfl (Yd.buildT (cs := _ :: _ :: _ :: _ :: _ :: _ :: _ :: _ :: _ :: _ :: _ :: _ :: _ :: _ :: _ :: _ :: _ :: _ :: _ :: _ :: _ :: _ :: _ :: _ :: _ :: _ :: _ :: _ :: _ :: _ :: _ :: _ :: _ :: []) 33 rfl rfl rfl rfl rfl) ?_
  refine Seg.step rfl rfl (Yd.buildT (cs := _ :: _ :: _ :: _ :: _ :: _ :: _ :: _ :: _ :: _ :: _ :: _ :: _ :: _ :: _ :: _ :: _ :: _ :: _ :: _ :: _ :: _ :: _ :: _ :: _ :: _ :: _ :: _ :: _ :: _ :: _ :: _ :: _ :: []) 33 rfl rfl rfl rfl rfl) ?_
  refine Seg.buildSliceV rfl rfl rfl rfl rfl rfl rfl rfl rfl rfl (fun w11 b11 hE11 hB11 hb11 hO11 => ?_)
  have hlt11_0 := Nat.le_trans hE0.size hb11
  replace hE0 := Ext.trans hE0 hE11
  refine Seg.buildSliceV rfl rfl rfl rfl rfl rfl rfl rfl rfl rfl (fun w12 b12 hE12 hB12 hb12 hO12 => ?_)
  have hlt12_0 := Nat.le_trans hE11.size hb12
  have hlt12_1 := Nat.lt_of_lt_of_le hB11.lt hb12
  have hlt12_2 := Nat.le_trans hE0.size hb12
  replace hE11 := Ext.trans hE11 hE12
  replace hB11 := hB11.ext hE12
  replace hO11 := own_ext hO11 hE12
  replace hE0 := Ext.trans hE0 hE12
  (refine Seg.call rfl rfl (own_of rfl) rfl (new_any [3] _ _ (own_sl (by assumption)) (by decide)) ?_; rintro _ w13 ⟨b13, rfl, hE13, hb13, hL⟩)
  have hlt13_0 := Nat.le_trans hE12.size hb13
  have hlt13_1 := Nat.lt_of_lt_of_le hB12.lt hb13
  have hlt13_2 := Nat.le_trans hE11.size hb13
  have hlt13_3 := Nat.lt_of_lt_of_le hB11.lt hb13
  have hlt13_4 := Nat.le_trans hE0.size hb13
  replace hE12 := Ext.trans hE12 hE13
  replace hB12 := hB12.ext hE13
  replace hO12 := own_ext hO12 hE13
  replace hE11 := Ext.trans hE11 hE13
  replace hB11 := hB11.ext hE13
  replace hO11 := own_ext hO11 hE13
  replace hE0 := Ext.trans hE0 hE13
  refine Seg.call rfl rfl (own_of rfl) rfl (order_lot w xsW _ [3] _ b13 w13 (own_sl hO11) (by decide) hL (fun x h => h.2) hE0 (by omega)) ?_
  rintro v w14 ⟨Y, hY, hYs, hO, hK, hE1⟩
  have hYe := xsW_srt hY hYs
  subst hYe
  rw [show ([mkR 1 0, mkR 1 5, mkR 2 0] : List El).length = 3 from rfl, xsW_ord] at hO
  have hO' : w14.ownsRow w13.heap.size 44 33 v 3 ([mkR 1 5, mkR 1 0, mkR 2 0].flatMap cel) := hO
  obtain ⟨g, c, zs, rfl, hg, hBg⟩ := own_bx hO' (by decide)
  clear hO'
  have kr : Keep (Row w14 ⟨g, 0, none⟩ ([mkR 1 5, mkR 1 0, mkR 2 0].flatMap cel ++ zs)) := hBg.row
  have hE0 := hE1
  have hEg := Ext.refl w14
  clear hO hBg hL
  refine Seg.step rfl rfl (Yd.assign rfl) ?_
  refine Seg.nil ?_
  refine At.then_ ?_
  refine Cd.seq ?_
  refine Cd.region ?_
  refine Seg.buildSliceV rfl rfl rfl rfl rfl rfl rfl rfl rfl rfl (fun w20 b20 hE20 hB20 hb20 hO20 => ?_)
  have hlt20_0 := Nat.le_trans hE1.size hb20
  have hlt20_1 := Nat.le_trans hE0.size hb20
  have hlt20_2 := Nat.le_trans hEg.size hb20
  replace hE1 := Ext.trans hE1 hE20
  replace hE0 := Ext.trans hE0 hE20
  replace hEg := Ext.trans hEg hE20
  (refine Seg.call rfl rfl (own_of rfl) rfl (wpick_any [0, 10, 5] _ 11 _ (own_sl (by assumption)) (by decide)) ?_; rintro _ w21 ⟨rfl, hE21⟩; rw [show wpick [0, 10, 5] 11 = 2 from by kernel_rfl])
  replace hE20 := Ext.trans hE20 hE21
  replace hB20 := hB20.ext hE21
  replace hO20 := own_ext hO20 hE21
  replace hE1 := Ext.trans hE1 hE21
  replace hE0 := Ext.trans hE0 hE21
  replace hEg := Ext.trans hEg hE21
  refine Seg.step rfl rfl (Yd.eql rfl rfl) ?_
  refine Seg.step rfl rfl (Yd.move rfl) ?_
  refine Seg.buildSliceV rfl rfl rfl rfl rfl rfl rfl rfl rfl rfl (fun w24 b24 hE24 hB24 hb24 hO24 => ?_)
  have hlt24_0 := Nat.le_trans hE21.size hb24
  have hlt24_1 := Nat.le_trans hE20.size hb24
  have hlt24_2 := Nat.lt_of_lt_of_le hB20.lt hb24
  have hlt24_3 := Nat.le_trans hE1.size hb24
  have hlt24_4 := Nat.le_trans hE0.size hb24
  have hlt24_5 := Nat.le_trans hEg.size hb24
  replace hE21 := Ext.trans hE21 hE24
  replace hE20 := Ext.trans hE20 hE24
  replace hB20 := hB20.ext hE24
  replace hO20 := own_ext hO20 hE24
  replace hE1 := Ext.trans hE1 hE24
  replace hE0 := Ext.trans hE0 hE24
  replace hEg := Ext.trans hEg hE24
  (refine Seg.call rfl rfl (own_of rfl) rfl (wpick_any [0, 10] _ 0 _ (own_sl (by assumption)) (by decide)) ?_; rintro _ w25 ⟨rfl, hE25⟩; rw [show wpick [0, 10] 0 = 0 from by kernel_rfl])
  replace hE24 := Ext.trans hE24 hE25
  replace hB24 := hB24.ext hE25
  replace hO24 := own_ext hO24 hE25
  replace hE21 := Ext.trans hE21 hE25
  replace hE20 := Ext.trans hE20 hE25
  replace hB20 := hB20.ext hE25
  replace hO20 := own_ext hO20 hE25
  replace hE1 := Ext.trans hE1 hE25
  replace hE0 := Ext.trans hE0 hE25
  replace hEg := Ext.trans hEg hE25
  refine Seg.step rfl rfl (Yd.eql rfl rfl) ?_
  refine Seg.step rfl rfl (Yd.pickT rfl rfl) ?_
  refine Seg.step rfl rfl (Yd.move rfl) ?_
  refine Seg.step rfl rfl (Yd.move rfl) ?_
  refine Seg.step rfl rfl (Yd.lenS rfl rfl) ?_
  refine Seg.step rfl rfl (Yd.eql rfl rfl) ?_
  refine Seg.step rfl rfl (Yd.pickT rfl rfl) ?_
  refine Seg.step rfl rfl (Yd.move rfl) ?_
  refine Seg.step rfl rfl (Yd.move rfl) ?_
  refine Seg.step rfl rfl (Yd.indexAddr rfl rfl rfl (NatOf.cast 0) (by omega)) ?_
  refine Seg.step rfl rfl (Yd.fieldAddr' rfl rfl) ?_
  refine Seg.step rfl rfl (Yd.load1 rfl rfl (Row.ext kr hEg 25 (.int .i64 5) rfl)) ?_
  refine Seg.step rfl rfl (Yd.eql rfl rfl) ?_
  refine Seg.step rfl rfl (Yd.pickT rfl rfl) ?_
  refine Seg.step rfl rfl (Yd.move rfl) ?_
  refine Seg.step rfl rfl (Yd.move rfl) ?_
  refine Seg.step rfl rfl (Yd.indexAddr rfl rfl rfl (NatOf.cast 2) (by omega)) ?_
  refine Seg.step rfl rfl (Yd.fieldAddr' rfl rfl) ?_
  refine Seg.step rfl rfl (Yd.load1 rfl rfl (Row.ext kr hEg 90 (.int .i64 2) rfl)) ?_
  refine Seg.step rfl rfl (Yd.eql rfl rfl) ?_
  refine Seg.step rfl rfl (Yd.pickT rfl rfl) ?_
  refine Seg.step rfl rfl (Yd.assign rfl) ?_
  refine Seg.nil ?_
  refine At.then_ ?_
  refine Cd.ret ?_
  exact At.ret Try.results12 (.tmp rfl .nil) ⟨rfl, by assumption⟩
end Go.Proofs.Ytccppgpedlfjdaa
