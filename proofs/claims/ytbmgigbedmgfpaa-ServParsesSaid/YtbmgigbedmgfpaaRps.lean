/- The reference's reading of services: the walk. -/
import Derived.Test.YtbmgigbedmgfpaaRnm
namespace Go.Proofs.Ytbmgigbedmgfpaa
open Go Go.RowKit
theorem own_low {w : World} {base base' e k m : Nat} {v : Value} {cs : List Value} (h : w.ownsRow base e k v m cs) (hb : base' ≤ base) : w.ownsRow base' e k v m cs := by
  obtain ⟨h1, h2⟩ := h
  refine ⟨h1, ?_⟩
  rcases h2 with h2 | ⟨g, cap, cur, rfl, h3, h4⟩
  · exact .inl h2
  · exact .inr ⟨g, cap, cur, rfl, Nat.le_trans hb h3, h4⟩
theorem prsL_snoc (L : List (Nat × List (List UInt8))) (y : Nat × List (List UInt8)) : prsL (L ++ [y]) = prsL L ++ (svcB y.2).toList := by
  unfold prsL
  rw [List.filterMap_append]
  simp [List.filterMap_cons]
  cases svcB y.2 <;> rfl
theorem cutB_f {c : UInt8} : ∀ {l : List UInt8}, (cutB c l).2.2 = false → (cutB c l).2.1 = []
  | [], _ => rfl
  | x :: r, h => by
    by_cases hx : x = c
    · rw [cutB, if_pos hx] at h; cases h
    · rw [cutB, if_neg hx] at h ⊢
      exact cutB_f (l := r) h
theorem rparse_any (s : List UInt8) (w : World) (hl : s.length ≤ 1000000) : Ret Try.prog 11 #[.string ⟨s.toArray⟩] w fun r w' => (∃ X : List Sv, w'.ownsRow w.heap.size 37 3 r X.length (X.flatMap svV) ∧ SvOk (fun q => ownP r q ∨ q < w.heap.size) w' X ∧ X.map Prod.snd = prsB s) ∧ Ext w w' := by
  have hE0 := Ext.refl w
  refine Ret.body Try.func11 rfl Try.ntmps11 rfl ?_
  refine Cd.seq ?_
  refine Cd.region ?_
  refine Seg.step rfl rfl (Yd.assign rfl) ?_
  refine Seg.nil ?_
  refine At.then_ ?_
  refine Cd.seq ?_
  refine Cd.region ?_
  refine Seg.step rfl rfl (Yd.assign rfl) ?_
  refine Seg.nil ?_
  refine At.then_ ?_
  refine Cd.seq ?_
  refine Cd.region ?_
  refine Seg.step rfl rfl (Yd.move rfl) ?_
  (refine Seg.call rfl rfl (own_of rfl) rfl (rall_any s true _ hl) ?_; rintro lv w14 ⟨⟨X, hX, hL, hmap, hC⟩, hE14⟩; obtain ⟨la, lc, rfl⟩ := own_shape hX)
  replace hE0 := Ext.trans hE0 hE14
  refine Seg.step rfl rfl (Yd.assign rfl) ?_
  refine Seg.nil ?_
  refine At.then_ ?_
  refine Cd.seq ?_
  refine Cd.seq ?_
  refine Cd.region ?_
  refine Seg.step rfl rfl (Yd.assign rfl) ?_
  refine Seg.nil ?_
  refine At.then_ ?_
  refine Cd.block ?_
  have hXl : X.length ≤ 1000001 := by
    have h1 := congrArg List.length hmap
    rw [List.length_map] at h1
    rw [h1]
    exact Nat.le_trans (all_le true _ 1) (Nat.le_trans (lines_le s) (by omega))
  have kE : Keep (Ext w w14) := hE0
  have kX := own_sl hX
  refine Cd.loop (σ := List Sv × Value × Nat) (fun t => [(0, .string ⟨s.toArray⟩), (3, t.2.1), (4, .slice la X.length lc), (5, .int .i64 (t.2.2 : Int))])
    (fun t w' => (t.2.2 ≤ X.length ∧ t.1.length ≤ t.2.2 ∧ t.1.map Prod.snd = prsL ((X.take t.2.2).map lnD)) ∧ w'.ownsRow w14.heap.size 37 3 t.2.1 t.1.length (t.1.flatMap svV) ∧ SvOk (fun q => ownP t.2.1 q ∨ q < w14.heap.size) w' t.1 ∧ Ext w14 w') (fun t => X.length - t.2.2) ([], .slice none 0 0, 0) (.cons rfl (.cons rfl (.cons rfl (.cons rfl (.nil _)))))
    ⟨⟨Nat.zero_le _, Nat.zero_le _, rfl⟩, World.ownsRow_nil _ _ _ _, (fun _ h => by cases h), Ext.refl _⟩ ?_
  clear hE0
  rintro ⟨Z, v, i⟩ w0 ⟨⟨hi, hZl, hZ⟩, hO, hS, hE9⟩
  simp only at hi hZl hZ hO hS ⊢
  have hE0 := Ext.refl w0
  have kO : Keep (w0.ownsRow w14.heap.size 37 3 v Z.length (Z.flatMap svV)) := hO
  have kS : Keep (SvOk (fun q => ownP v q ∨ q < w14.heap.size) w0 Z) := hS
  have kE9 : Keep (Ext w14 w0) := hE9
  by_cases hlt : i < X.length
  · obtain ⟨x, hx⟩ : ∃ x, X[i]? = some x := ⟨_, List.getElem?_eq_getElem hlt⟩
    have hxm := List.mem_of_getElem? hx
    obtain ⟨hu0, hou0⟩ := hL _ hxm
    have hcap := hC _ hxm
    have hin : lnD x ∈ allB true s := by rw [← hmap]; exact List.mem_map_of_mem hxm
    have hsh := all_short true s _ hin
    have hfl := all_flds true (linesB s) 1 _ hin
    have hZ' : ∀ {Z' : List Sv}, Z'.map Prod.snd = prsL ((X.take i).map lnD) ++ (svcB x.2.2).toList → Z'.map Prod.snd = prsL ((X.take (i + 1)).map lnD) := fun h => by
      rw [List.take_add_one, hx, List.map_append, Option.toList_some, List.map_singleton, prsL_snoc]; exact h
    obtain ⟨n, u, fs⟩ := x
    simp only [lnD] at hu0 hou0 hcap hsh hfl hZ'
    obtain ⟨d, rfl⟩ : ∃ d, la = some d := by
      obtain ⟨ao', c', e, _, _, hz⟩ := kX
      cases e
      cases la with
      | none => have := hz rfl; omega
      | some d => exact ⟨d, rfl⟩
    have hyr : Row w0 (Addr.add d (i * 2)) [.int .i64 (n : Int), u] := by
      obtain ⟨ao', c', e, _, hr, _⟩ := kX
      cases e
      exact (flat_row (cel := lnV) (zs := []) lnV_len (by simpa using hr d rfl) hx).ext hE9
    have hu := hu0.ext hE9
    have hms : X.length - (i + 1) < X.length - i := Nat.sub_lt_sub_left hlt (Nat.lt_succ_self i)
    have huk : Keep (NameAt w0 u fs) := hu
    have hcapk := hcap
    obtain ⟨ua, uc, rfl, hu1, hu2, hu3⟩ := hu
    by_cases h1 : fs.length < 2
    · have hN : svcB fs = none := by unfold svcB; rw [if_pos h1]
      have hZn := hZ' (Z' := Z) (by rw [hN, hZ]; simp)
      refine Cd.seq ?_
      refine Cd.seq ?_
      refine Cd.region ?_
      refine Seg.step rfl rfl (Yd.move rfl) ?_
      refine Seg.step rfl rfl (Yd.move rfl) ?_
      refine Seg.step rfl rfl (Yd.lenS rfl rfl) ?_
      refine Seg.step rfl rfl (Yd.lss rfl rfl) ?_
      refine Seg.nil ?_
      refine At.then_ ?_
      refine Cd.condk rfl (fun h24 => ?_) (fun h24 => ?_)
      · refine Cd.skip ?_
        refine At.then_ ?_
        refine Cd.seq ?_
        refine Cd.block ?_
        refine Cd.seq ?_
        refine Cd.region ?_
        refine Seg.step rfl rfl (Yd.move rfl) ?_
        refine Seg.step rfl rfl (Yd.move rfl) ?_
        refine Seg.step rfl rfl (Yd.indexAddr rfl rfl rfl (NatOf.cast _) (by omega)) ?_
        refine Seg.step rfl rfl (Yd.fieldAddr rfl rfl) ?_
        refine Seg.step rfl rfl (Yd.load1 rfl rfl (hyr _ _ rfl)) ?_
        refine Seg.step rfl rfl (Yd.assign rfl) ?_
        refine Seg.nil ?_
        refine At.then_ ?_
        refine Cd.seq ?_
        refine Cd.seq ?_
        refine Cd.region ?_
        refine Seg.step rfl rfl (Yd.move rfl) ?_
        refine Seg.step rfl rfl (Yd.lenS rfl rfl) ?_
        refine Seg.step rfl rfl (Yd.lss rfl rfl) ?_
        refine Seg.nil ?_
        refine At.then_ ?_
        refine Cd.condk rfl (fun h48 => ?_) (fun h48 => ?_)
        · refine Cd.exit ?_
          refine At.then_exit ?_
          refine At.blk_same ?_
          refine At.then_ ?_
          refine Cd.region ?_
          refine Seg.step rfl rfl (Yd.move rfl) ?_
          refine Seg.step rfl rfl (Yd.addI rfl rfl (by omega)) ?_
          refine Seg.step rfl rfl (Yd.assign rfl) ?_
          refine Seg.nil ?_
          exact At.round (Z, v, i + 1) (.cons rfl (.cons rfl (.cons rfl (.cons rfl (.nil _))))) ⟨⟨hlt, Nat.le_succ_of_le hZl, hZn⟩, hO, hS, hE9⟩ hms
        · exfalso; omega
      · exfalso; omega
    · obtain ⟨ud, rfl⟩ : ∃ d, ua = some d := by
        cases ua with
        | none => have := hu3 rfl; omega
        | some d => exact ⟨d, rfl⟩
      have hr := hu2 ud rfl
      have hx0 : (strV fs)[0]? = some (.string ⟨(fs.getD 0 []).toArray⟩) := strV_get (by omega)
      have hx1 : (strV fs)[1]? = some (.string ⟨(fs.getD 1 []).toArray⟩) := strV_get (by omega)
      have hm1 : (fs.getD 1 []).length ≤ 1000000 := hsh _ (by
        have : fs.getD 1 [] = fs[1] := by simp [List.getD, show 1 < fs.length by omega]
        rw [this]; exact List.getElem_mem _)
      have hc1 := cutB_len 47 (fs.getD 1 [])
      have hcut := rcut_any (fs.getD 1 []) 47
      have hdef : svcB fs = if (cutB 47 (fs.getD 1 [])).2.2 = false then none else if (numB (cutB 47 (fs.getD 1 [])).1 65535).2 ≠ 0 then none else if protoB (cutB 47 (fs.getD 1 [])).2.1 = 0 then none else
        some ⟨fs.getD 0 [] :: fs.drop 2, (numB (cutB 47 (fs.getD 1 [])).1 65535).1, protoB (cutB 47 (fs.getD 1 [])).2.1⟩ := by conv => lhs; unfold svcB; rw [if_neg h1]
      have hf := cutB_f (c := 47) (l := fs.getD 1 [])
      generalize cutB 47 (fs.getD 1 []) = q at hc1 hcut hdef hf
      obtain ⟨left, right, ok⟩ := q
      simp only at hc1 hcut hdef hf
      have hnum := rnumber_any left 65535
      have hsm := fun m => rsame_any right m
      generalize numB left 65535 = nn at hdef hnum
      obtain ⟨port, err⟩ := nn
      simp only at hdef hnum
      have hbx0 : Keep (∀ (w : World) (b : Nat), Bx w b (#[Value.slice none 0 0, .int .i64 0, .int .i64 0] : Array Value).toList → Bx w b [.slice none 0 0, .int .i64 0, .int .i64 0]) := fun _ _ h => h
      by_cases ht : lowS right = [116, 99, 112]
      · have hok : ¬ ok = false := fun h => by rw [hf h] at ht; cases ht
        have hpr : protoB right = 6 := by unfold protoB; rw [if_pos ht]
        have hut : ¬ lowS right = [117, 100, 112] := fun h => by rw [ht] at h; cases h
        rw [if_neg hok, hpr, if_neg (show ¬ (6 : Int) = 0 by decide)] at hdef
        by_cases he : err = 0
        · subst he
          rw [if_neg (by simp)] at hdef
          refine Cd.seq ?_
          refine Cd.seq ?_
          refine Cd.region ?_
          refine Seg.step rfl rfl (Yd.move rfl) ?_
          refine Seg.step rfl rfl (Yd.move rfl) ?_
          refine Seg.step rfl rfl (Yd.lenS rfl rfl) ?_
          refine Seg.step rfl rfl (Yd.lss rfl rfl) ?_
          refine Seg.nil ?_
          refine At.then_ ?_
          refine Cd.condk rfl (fun h24 => ?_) (fun h24 => ?_)
          rotate_left 1
          · exfalso; omega
          rotate_right 1
          refine Cd.skip ?_
          refine At.then_ ?_
          refine Cd.seq ?_
          refine Cd.block ?_
          refine Cd.seq ?_
          refine Cd.region ?_
          refine Seg.step rfl rfl (Yd.move rfl) ?_
          refine Seg.step rfl rfl (Yd.move rfl) ?_
          refine Seg.step rfl rfl (Yd.indexAddr rfl rfl rfl (NatOf.cast _) (by omega)) ?_
          refine Seg.step rfl rfl (Yd.fieldAddr rfl rfl) ?_
          refine Seg.step rfl rfl (Yd.load1 rfl rfl (hyr _ _ rfl)) ?_
          refine Seg.step rfl rfl (Yd.assign rfl) ?_
          refine Seg.nil ?_
          refine At.then_ ?_
          refine Cd.seq ?_
          refine Cd.seq ?_
          refine Cd.region ?_
          refine Seg.step rfl rfl (Yd.move rfl) ?_
          refine Seg.step rfl rfl (Yd.lenS rfl rfl) ?_
          refine Seg.step rfl rfl (Yd.lss rfl rfl) ?_
          refine Seg.nil ?_
          refine At.then_ ?_
          refine Cd.condk rfl (fun h48 => ?_) (fun h48 => ?_)
          · exfalso; omega
          refine Cd.skip ?_
          refine At.then_ ?_
          refine Cd.seq ?_
          refine Cd.region ?_
          refine Seg.step rfl rfl (Yd.move rfl) ?_
          refine Seg.step rfl rfl (Yd.indexAddr1 rfl rfl rfl (NatOf.cast 1) (by omega)) ?_
          refine Seg.step rfl rfl (Yd.load1 rfl rfl ((hr.ext hE0) _ _ hx1)) ?_
          (refine Seg.call rfl rfl (own_of rfl) rfl (hcut _ hm1) ?_; rintro _ w57 ⟨rfl, hE57⟩)
          replace hO := own_ext hO hE57
          replace hS := hS.ext hE57
          replace hE9 := Ext.trans hE9 hE57
          replace hE0 := Ext.trans hE0 hE57
          replace hyr := hyr.ext hE57
          replace hr := hr.ext hE57
          refine Seg.step rfl rfl (Yd.move rfl) ?_
          refine Seg.step rfl rfl (Yd.extract rfl rfl) ?_
          refine Seg.step rfl rfl (Yd.extract rfl rfl) ?_
          refine Seg.step rfl rfl (Yd.extract rfl rfl) ?_
          refine Seg.step rfl rfl (Yd.assign rfl) ?_
          refine Seg.step rfl rfl (Yd.assign rfl) ?_
          refine Seg.step rfl rfl (Yd.assign rfl) ?_
          refine Seg.nil ?_
          refine At.then_ ?_
          refine Cd.seq ?_
          refine Cd.region ?_
          refine Seg.step rfl rfl (Yd.move rfl) ?_
          (refine Seg.call rfl rfl (own_of rfl) rfl (hnum _ (by omega) (by omega)) ?_; rintro _ w70 ⟨rfl, hE70⟩)
          replace hE57 := Ext.trans hE57 hE70
          replace hO := own_ext hO hE70
          replace hS := hS.ext hE70
          replace hE9 := Ext.trans hE9 hE70
          replace hE0 := Ext.trans hE0 hE70
          replace hyr := hyr.ext hE70
          replace hr := hr.ext hE70
          refine Seg.step rfl rfl (Yd.move rfl) ?_
          refine Seg.step rfl rfl (Yd.extract rfl rfl) ?_
          refine Seg.step rfl rfl (Yd.extract rfl rfl) ?_
          refine Seg.step rfl rfl (Yd.assign rfl) ?_
          refine Seg.step rfl rfl (Yd.assign rfl) ?_
          refine Seg.nil ?_
          refine At.then_ ?_
          refine Cd.seq ?_
          refine Cd.region ?_
          refine Seg.step rfl rfl (Yd.move rfl) ?_
          refine Seg.step rfl rfl (Yd.buildT (cs := _ :: _ :: _ :: []) 3 rfl rfl rfl rfl rfl) ?_
          refine Seg.alloc rfl rfl rfl (fun w82 b82 hE82 hB82 hb82 => ?_)
          have hlt82_0 := Nat.le_trans hE70.size hb82
          have hlt82_1 := Nat.le_trans hE57.size hb82
          have hlt82_2 := Nat.le_trans hE9.size hb82
          have hlt82_3 := Nat.le_trans hE0.size hb82
          replace hE70 := Ext.trans hE70 hE82
          replace hE57 := Ext.trans hE57 hE82
          replace hO := own_ext hO hE82
          replace hS := hS.ext hE82
          replace hE9 := Ext.trans hE9 hE82
          replace hE0 := Ext.trans hE0 hE82
          replace hyr := hyr.ext hE82
          replace hr := hr.ext hE82
          refine Seg.storeN rfl rfl rfl rfl hB82 rfl (by first | assumption | exact List.all_eq_true.1 rfl) (fun w83 hW83 hB83 => ?_)
          clear hB82
          replace hE82 := Ext.wr' hE82 hW83 (by omega)
          replace hE70 := Ext.wr' hE70 hW83 (by omega)
          replace hE57 := Ext.wr' hE57 hW83 (by omega)
          replace hE9 := Ext.wr' hE9 hW83 (by omega)
          replace hE0 := Ext.wr' hE0 hW83 (by omega)
          refine Seg.nil ?_
          refine At.then_ ?_
          refine Cd.seq ?_
          refine Cd.seq ?_
          refine Cd.region ?_
          refine Seg.step rfl rfl (Yd.move rfl) ?_
          (refine Seg.call rfl rfl (own_of rfl) rfl (hsm [116, 99, 112] _ (by omega) (by decide)) ?_; rintro _ w90 ⟨rfl, hE90⟩; rw [show decide (lowS right = lowS [116, 99, 112]) = _ from decide_eq_true ht])
          replace hW83 := Wr.trans hW83 (Ext.wr hE90 _)
          replace hB83 := hB83.ext hE90
          replace hE82 := Ext.trans hE82 hE90
          replace hE70 := Ext.trans hE70 hE90
          replace hE57 := Ext.trans hE57 hE90
          replace hE9 := Ext.trans hE9 hE90
          replace hE0 := Ext.trans hE0 hE90
          refine Seg.nil ?_
          refine At.then_ ?_
          refine Cd.condT rfl ?_
          refine Cd.region ?_
          refine Seg.step rfl rfl (Yd.fieldAddr rfl rfl) ?_
          refine Seg.store1 rfl rfl rfl rfl rfl hB83 (by first | omega | (simp; done) | exact Nat.le_of_ble_eq_true rfl) (fun w96 hW96 hB96 => ?_)
          clear hB83
          replace hW83 := Wr.trans hW83 hW96
          replace hE82 := Ext.wr' hE82 hW96 (by omega)
          replace hE70 := Ext.wr' hE70 hW96 (by omega)
          replace hE57 := Ext.wr' hE57 hW96 (by omega)
          replace hE9 := Ext.wr' hE9 hW96 (by omega)
          replace hE0 := Ext.wr' hE0 hW96 (by omega)
          refine Seg.nil ?_
          refine At.then_ ?_
          refine Cd.seq ?_
          refine Cd.seq ?_
          refine Cd.region ?_
          refine Seg.step rfl rfl (Yd.move rfl) ?_
          (refine Seg.call rfl rfl (own_of rfl) rfl (hsm [117, 100, 112] _ (by omega) (by decide)) ?_; rintro _ w103 ⟨rfl, hE103⟩; rw [show decide (lowS right = lowS [117, 100, 112]) = _ from decide_eq_false hut])
          replace hW96 := Wr.trans hW96 (Ext.wr hE103 _)
          replace hB96 := hB96.ext hE103
          replace hW83 := Wr.trans hW83 (Ext.wr hE103 _)
          replace hE82 := Ext.trans hE82 hE103
          replace hE70 := Ext.trans hE70 hE103
          replace hE57 := Ext.trans hE57 hE103
          replace hE9 := Ext.trans hE9 hE103
          replace hE0 := Ext.trans hE0 hE103
          refine Seg.nil ?_
          refine At.then_ ?_
          refine Cd.condF rfl ?_
          refine Cd.skip ?_
          refine At.then_ ?_
          refine Cd.seq ?_
          refine Cd.seq ?_
          refine Cd.region ?_
          refine Seg.step rfl rfl (Yd.move rfl) ?_
          refine Seg.step rfl rfl (Yd.neq rfl rfl) ?_
          refine Seg.step rfl rfl (Yd.move rfl) ?_
          refine Seg.step rfl rfl (Yd.fieldAddr rfl rfl) ?_
          refine Seg.step rfl rfl (Yd.load1 rfl rfl (hB96.row _ _ rfl)) ?_
          refine Seg.step rfl rfl (Yd.eql rfl rfl) ?_
          refine Seg.step rfl rfl (Yd.pickF rfl rfl) ?_
          refine Seg.nil ?_
          refine At.then_ ?_
          refine Cd.condF rfl ?_
          refine Cd.skip ?_
          refine At.then_ ?_
          refine Cd.seq ?_
          refine Cd.anyE (by kernel_rfl) (fun w125 hE125 => ?_)
          replace hE103 := Ext.trans hE103 hE125
          replace hW96 := Wr.trans hW96 (Ext.wr hE125 _)
          replace hB96 := hB96.ext hE125
          replace hW83 := Wr.trans hW83 (Ext.wr hE125 _)
          replace hE82 := Ext.trans hE82 hE125
          replace hE70 := Ext.trans hE70 hE125
          replace hE57 := Ext.trans hE57 hE125
          replace hE9 := Ext.trans hE9 hE125
          replace hE0 := Ext.trans hE0 hE125
          refine SegA.pure 0 rfl (by kernel_rfl) (by kernel_rfl) (by kernel_rfl) rfl rfl (fun _ => Yd.fieldAddr rfl rfl) ?_
          refine SegA.pure 2 rfl (by kernel_rfl) (by kernel_rfl) (by kernel_rfl) rfl rfl (fun _ => Yd.move rfl) ?_
          refine SegA.pure 3 rfl (by kernel_rfl) (by kernel_rfl) (by kernel_rfl) rfl rfl (fun _ => Yd.indexAddr1 rfl rfl rfl (NatOf.cast 0) (by omega)) ?_
          refine SegA.held 6 ?_
          refine SegG.take 1 rfl (by kernel_rfl) (by kernel_rfl) (by kernel_rfl) (by kernel_rfl) (by kernel_rfl) rfl rfl (fun w' hw' => Yd.load1 rfl rfl ((hB96.ext hw').row _ _ rfl)) ?_
          refine SegG.oneSeg (o := ⟨_, _, _, _, _, _⟩) 4 rfl (by kernel_rfl) ?_
          refine Seg.step rfl rfl (Yd.load1 rfl rfl (((hu2 ud rfl).ext hE0) _ _ hx0)) ?_
          refine SegG.back rfl (by first | assumption | exact Ext.refl _) ?_
          refine SegG.oneSeg (o := ⟨_, _, _, _, _, _⟩) 5 rfl (by kernel_rfl) ?_
          refine Seg.buildSliceV rfl rfl rfl rfl rfl rfl rfl rfl rfl rfl (fun w135 b135 hE135 hB135 hb135 hO135 => ?_)
          have hlt135_0 := Nat.le_trans hE125.size hb135
          have hlt135_1 := Nat.le_trans hE103.size hb135
          have hlt135_2 := Nat.lt_of_lt_of_le hB96.lt hb135
          have hlt135_3 := Nat.le_trans hE82.size hb135
          have hlt135_4 := Nat.le_trans hE70.size hb135
          have hlt135_5 := Nat.le_trans hE57.size hb135
          have hlt135_6 := Nat.le_trans hE9.size hb135
          have hlt135_7 := Nat.le_trans hE0.size hb135
          replace hE125 := Ext.trans hE125 hE135
          replace hE103 := Ext.trans hE103 hE135
          replace hW96 := Wr.trans hW96 (Ext.wr hE135 _)
          replace hB96 := hB96.ext hE135
          replace hW83 := Wr.trans hW83 (Ext.wr hE135 _)
          replace hE82 := Ext.trans hE82 hE135
          replace hE70 := Ext.trans hE70 hE135
          replace hE57 := Ext.trans hE57 hE135
          replace hE9 := Ext.trans hE9 hE135
          replace hE0 := Ext.trans hE0 hE135
          refine SegG.back rfl (by first | assumption | exact Ext.refl _) ?_
          refine SegG.oneSeg (o := ⟨_, _, _, _, _, _⟩) 6 rfl (by kernel_rfl) ?_
          have hBx := (by assumption : Bx _ b82 _)
          have hbl := hBx.lt
          have hb82 : w0.heap.size ≤ b82 := by omega
          refine Seg.appendAt (news := strV [fs.getD 0 []]) (m' := 1) (base := w0.heap.size) rfl rfl rfl rfl rfl rfl rfl rfl rfl (World.ownsRow_nil _ _ _ _) (own_sl (by assumption)) (strV_one _) (Below.size hE0) (by omega) rfl (fun v1 w1 hN hG hAt => ?_)
          have hE0 := Below.grown hE0 hG hE0.size (fun k hk => by simp [Value.ownBlock] at hk)
          have hBx1 := hBx.grown hG (by simp [Value.ownBlock])
          have hnb1 : v1.ownBlock ≠ some b82 := fun h => by
            rcases hAt with h1 | h1 <;> rw [h1] at h <;> simp [Value.ownBlock] at h
            omega
          obtain ⟨va, vc, rfl⟩ := own_shape hN
          refine SegG.end_ rfl ?_
          refine SegA.pure 7 rfl (by kernel_rfl) (by kernel_rfl) (by kernel_rfl) rfl rfl (fun _ => Yd.fieldAddr rfl rfl) ?_
          refine SegA.oneSeg (o := ⟨_, _, _, _, _, _⟩) 8 rfl (by kernel_rfl) ?_
          refine Seg.store1 (k := 0) (v := .slice va (0 + 1) vc) rfl rfl rfl rfl rfl hBx1 (show 0 < 3 by decide) (fun w2 hW2 hBx2 => ?_)
          have hE0 := Below.wr' hE0 hW2 hb82
          have hN := own_wr hN hW2 hnb1
          refine SegA.back ?_
          refine SegA.done (by kernel_rfl) ?_
          refine At.then_ ?_
          refine Cd.seq ?_
          refine Cd.still 4 (by kernel_rfl) (by kernel_rfl) (fun w140 hE140 => ?_)
          replace hW2 := Wr.trans hW2 (Ext.wr hE140 _)
          replace hBx2 := hBx2.ext hE140
          replace hE0 := Ext.trans hE0 hE140
          replace hN := own_ext hN hE140
          refine SegS.step rfl rfl (Yd.fieldAddr rfl rfl) ?_
          refine SegS.step rfl rfl (Yd.load1 rfl rfl (hBx2.row _ _ rfl)) ?_
          refine SegS.step rfl rfl (Yd.move rfl) ?_
          refine SegS.step rfl rfl (Yd.slSlL rfl rfl rfl (NatOf.cast 2) (by omega)) ?_
          refine SegS.nil ?_
          have hBx3 := (by assumption : Bx _ b82 _)
          have hbl3 := hBx3.lt
          have hd2 := drop_cut fs
          refine Seg.appendAt (m' := fs.length - 2) (news := strV (fs.drop 2)) rfl rfl rfl rfl rfl rfl rfl rfl rfl hN (by rw [← hd2]; exact Sl.cut (Sl.ext huk hE0) (by omega) (Nat.le_refl _) (hcap _ _ _ rfl)) (strV_one _) (Below.size hE0) (by omega) rfl (fun v3 w3 hN3 hG3 hAt3 => ?_)
          have hnb3 : v3.ownBlock ≠ some b82 := fun h => by
            rcases hAt3 with h1 | h1 <;> rw [h1] at h
            · exact hnb1 h
            · cases h; exact Nat.lt_irrefl _ hbl3
          have hBx4 := hBx3.grown hG3 hnb1.symm
          have hE0 := Ext.own hE0 hN (Nat.le_refl _) hG3
          obtain ⟨va3, vc3, rfl⟩ := own_shape hN3
          refine Seg.step rfl rfl (Yd.fieldAddr rfl rfl) ?_
          refine Seg.store1 (k := 0) (v := .slice va3 (0 + 1 + (fs.length - 2)) vc3) rfl rfl rfl rfl rfl hBx4 (show 0 < 3 by decide) (fun w4 hW4 hBx5 => ?_)
          have hE0 := Below.wr' hE0 hW4 hb82
          have hN4 : w4.ownsRow w0.heap.size 9 (0 + 1) (.slice va3 (0 + 1 + (fs.length - 2)) vc3) (1 + (fs.length - 2)) ([.string ⟨(fs.getD 0 []).toArray⟩] ++ strV (fs.drop 2)) := own_wr hN3 hW4 hnb3
          have hN5 := names_row h1 hN4
          have hnm : NameAt w4 (.slice va3 (0 + 1 + (fs.length - 2)) vc3) (fs.getD 0 [] :: fs.drop 2) := own_sl hN5
          have hoff := OffP.above (p := fun r => ownP v r ∨ r < w14.heap.size) (own_abc hN5).1 (fun r h => h.elim (fun h => (World.ownsRow.lt kO r h).2) (fun h => Nat.lt_of_lt_of_le h (Below.size kE9)))
          have hEn := Ext.refl w4
          have hZn := hZ' (Z' := Z ++ [((.slice va3 (0 + 1 + (fs.length - 2)) vc3, ⟨fs.getD 0 [] :: fs.drop 2, port, 6⟩) : Sv)]) (by rw [List.map_append, hZ, hdef]; rfl)
          have hkO : ∀ w', Ext w0 w' → w'.ownsRow w14.heap.size 37 3 v Z.length (Z.flatMap svV) := fun _ h => own_ext kO h
          have hln : (Z ++ [((.slice va3 (0 + 1 + (fs.length - 2)) vc3, ⟨fs.getD 0 [] :: fs.drop 2, port, 6⟩) : Sv)]).length ≤ i + 1 := by simp; omega
          refine Seg.nil ?_
          refine At.then_ ?_
          refine Cd.region ?_
          refine Seg.step rfl rfl (Yd.move rfl) ?_
          refine Seg.step rfl rfl (Yd.loadN rfl rfl rfl hBx5.row) ?_
          refine Seg.buildSliceV rfl rfl rfl rfl rfl rfl rfl rfl rfl rfl (fun w146 b146 hE146 hB146 hb146 hO146 => ?_)
          have hlt146_0 := Nat.lt_of_lt_of_le hBx5.lt hb146
          have hlt146_1 := Nat.le_trans hE0.size hb146
          have hlt146_2 := Nat.le_trans hEn.size hb146
          replace hW4 := Wr.trans hW4 (Ext.wr hE146 _)
          replace hBx5 := hBx5.ext hE146
          replace hE0 := Ext.trans hE0 hE146
          replace hN4 := own_ext hN4 hE146
          replace hN5 := own_ext hN5 hE146
          replace hEn := Ext.trans hEn hE146
          (have hOx := hkO _ hE0; refine Seg.appendAt (news := svV (.slice va3 (0 + 1 + (fs.length - 2)) vc3, ⟨fs.getD 0 [] :: fs.drop 2, port, 6⟩)) (m' := 1) rfl rfl rfl rfl rfl rfl rfl rfl rfl hOx (own_sl (by assumption)) (by simp [svV, Value.oneCell']) (Below.size (Ext.trans kE9 hE0)) (by omega) rfl (fun v147 w147 hN9 hG9 hAt9 => ?_); have tot := (Kept.grown hG9 hAt9).mono (q := fun q => ownP v q ∨ q < w14.heap.size) (q' := fun q => ownP v147 q ∨ q < w14.heap.size) (fun r h => .inl h) (fun r h => h.elim .inl (fun h => .inr (.inr h))); have hE9 := Ext.own (Ext.trans kE9 hE0) hOx (Nat.le_refl _) hG9; have hnm := Sl.ext hnm hEn; have hS9 := SvOk.kept (SvOk.ext kS hE0) tot)
          refine Seg.step rfl rfl (Yd.assign rfl) ?_
          refine Seg.nil ?_
          refine At.blk ?_
          refine At.then_ ?_
          refine Cd.region ?_
          refine Seg.step rfl rfl (Yd.move rfl) ?_
          refine Seg.step rfl rfl (Yd.addI rfl rfl (by omega)) ?_
          refine Seg.step rfl rfl (Yd.assign rfl) ?_
          refine Seg.nil ?_
          exact At.round (Z ++ [((.slice va3 (0 + 1 + (fs.length - 2)) vc3, ⟨fs.getD 0 [] :: fs.drop 2, port, 6⟩) : Sv)], _, i + 1) (.cons rfl (.cons rfl (.cons rfl (.cons rfl (.nil _))))) ⟨⟨hlt, hln, hZn⟩, own3_snoc hN9, hS9.snoc (hnm.keptP tot hoff) (hoff.kept hnm tot), hE9⟩ hms
        · rw [if_pos he] at hdef
          have hZn := hZ' (Z' := Z) (by rw [hdef, hZ]; simp)
          refine Cd.seq ?_
          refine Cd.seq ?_
          refine Cd.region ?_
          refine Seg.step rfl rfl (Yd.move rfl) ?_
          refine Seg.step rfl rfl (Yd.move rfl) ?_
          refine Seg.step rfl rfl (Yd.lenS rfl rfl) ?_
          refine Seg.step rfl rfl (Yd.lss rfl rfl) ?_
          refine Seg.nil ?_
          refine At.then_ ?_
          refine Cd.condk rfl (fun h24 => ?_) (fun h24 => ?_)
          · refine Cd.skip ?_
            refine At.then_ ?_
            refine Cd.seq ?_
            refine Cd.block ?_
            refine Cd.seq ?_
            refine Cd.region ?_
            refine Seg.step rfl rfl (Yd.move rfl) ?_
            refine Seg.step rfl rfl (Yd.move rfl) ?_
            refine Seg.step rfl rfl (Yd.indexAddr rfl rfl rfl (NatOf.cast _) (by omega)) ?_
            refine Seg.step rfl rfl (Yd.fieldAddr rfl rfl) ?_
            refine Seg.step rfl rfl (Yd.load1 rfl rfl (hyr _ _ rfl)) ?_
            refine Seg.step rfl rfl (Yd.assign rfl) ?_
            refine Seg.nil ?_
            refine At.then_ ?_
            refine Cd.seq ?_
            refine Cd.seq ?_
            refine Cd.region ?_
            refine Seg.step rfl rfl (Yd.move rfl) ?_
            refine Seg.step rfl rfl (Yd.lenS rfl rfl) ?_
            refine Seg.step rfl rfl (Yd.lss rfl rfl) ?_
            refine Seg.nil ?_
            refine At.then_ ?_
            refine Cd.condk rfl (fun h48 => ?_) (fun h48 => ?_)
            · exfalso; omega
            · refine Cd.skip ?_
              refine At.then_ ?_
              refine Cd.seq ?_
              refine Cd.region ?_
              refine Seg.step rfl rfl (Yd.move rfl) ?_
              refine Seg.step rfl rfl (Yd.indexAddr1 rfl rfl rfl (NatOf.cast 1) (by omega)) ?_
              refine Seg.step rfl rfl (Yd.load1 rfl rfl ((hr.ext hE0) _ _ hx1)) ?_
              (refine Seg.call rfl rfl (own_of rfl) rfl (hcut _ hm1) ?_; rintro _ w57 ⟨rfl, hE57⟩)
              replace hO := own_ext hO hE57
              replace hS := hS.ext hE57
              replace hE9 := Ext.trans hE9 hE57
              replace hE0 := Ext.trans hE0 hE57
              replace hyr := hyr.ext hE57
              replace hr := hr.ext hE57
              refine Seg.step rfl rfl (Yd.move rfl) ?_
              refine Seg.step rfl rfl (Yd.extract rfl rfl) ?_
              refine Seg.step rfl rfl (Yd.extract rfl rfl) ?_
              refine Seg.step rfl rfl (Yd.extract rfl rfl) ?_
              refine Seg.step rfl rfl (Yd.assign rfl) ?_
              refine Seg.step rfl rfl (Yd.assign rfl) ?_
              refine Seg.step rfl rfl (Yd.assign rfl) ?_
              refine Seg.nil ?_
              refine At.then_ ?_
              refine Cd.seq ?_
              refine Cd.region ?_
              refine Seg.step rfl rfl (Yd.move rfl) ?_
              (refine Seg.call rfl rfl (own_of rfl) rfl (hnum _ (by omega) (by omega)) ?_; rintro _ w70 ⟨rfl, hE70⟩)
              replace hE57 := Ext.trans hE57 hE70
              replace hO := own_ext hO hE70
              replace hS := hS.ext hE70
              replace hE9 := Ext.trans hE9 hE70
              replace hE0 := Ext.trans hE0 hE70
              replace hyr := hyr.ext hE70
              replace hr := hr.ext hE70
              refine Seg.step rfl rfl (Yd.move rfl) ?_
              refine Seg.step rfl rfl (Yd.extract rfl rfl) ?_
              refine Seg.step rfl rfl (Yd.extract rfl rfl) ?_
              refine Seg.step rfl rfl (Yd.assign rfl) ?_
              refine Seg.step rfl rfl (Yd.assign rfl) ?_
              refine Seg.nil ?_
              refine At.then_ ?_
              refine Cd.seq ?_
              refine Cd.region ?_
              refine Seg.step rfl rfl (Yd.move rfl) ?_
              refine Seg.step rfl rfl (Yd.buildT (cs := _ :: _ :: _ :: []) 3 rfl rfl rfl rfl rfl) ?_
              refine Seg.alloc rfl rfl rfl (fun w82 b82 hE82 hB82 hb82 => ?_)
              have hlt82_0 := Nat.le_trans hE70.size hb82
              have hlt82_1 := Nat.le_trans hE57.size hb82
              have hlt82_2 := Nat.le_trans hE9.size hb82
              have hlt82_3 := Nat.le_trans hE0.size hb82
              replace hE70 := Ext.trans hE70 hE82
              replace hE57 := Ext.trans hE57 hE82
              replace hO := own_ext hO hE82
              replace hS := hS.ext hE82
              replace hE9 := Ext.trans hE9 hE82
              replace hE0 := Ext.trans hE0 hE82
              replace hyr := hyr.ext hE82
              replace hr := hr.ext hE82
              refine Seg.storeN rfl rfl rfl rfl hB82 rfl (by first | assumption | exact List.all_eq_true.1 rfl) (fun w83 hW83 hB83 => ?_)
              clear hB82
              replace hE82 := Ext.wr' hE82 hW83 (by omega)
              replace hE70 := Ext.wr' hE70 hW83 (by omega)
              replace hE57 := Ext.wr' hE57 hW83 (by omega)
              replace hE9 := Ext.wr' hE9 hW83 (by omega)
              replace hE0 := Ext.wr' hE0 hW83 (by omega)
              refine Seg.nil ?_
              refine At.then_ ?_
              refine Cd.seq ?_
              refine Cd.seq ?_
              refine Cd.region ?_
              refine Seg.step rfl rfl (Yd.move rfl) ?_
              (refine Seg.call rfl rfl (own_of rfl) rfl (hsm [116, 99, 112] _ (by omega) (by decide)) ?_; rintro _ w90 ⟨rfl, hE90⟩; rw [show decide (lowS right = lowS [116, 99, 112]) = _ from decide_eq_true ht])
              replace hW83 := Wr.trans hW83 (Ext.wr hE90 _)
              replace hB83 := hB83.ext hE90
              replace hE82 := Ext.trans hE82 hE90
              replace hE70 := Ext.trans hE70 hE90
              replace hE57 := Ext.trans hE57 hE90
              replace hE9 := Ext.trans hE9 hE90
              replace hE0 := Ext.trans hE0 hE90
              refine Seg.nil ?_
              refine At.then_ ?_
              refine Cd.condT rfl ?_
              refine Cd.region ?_
              refine Seg.step rfl rfl (Yd.fieldAddr rfl rfl) ?_
              refine Seg.store1 rfl rfl rfl rfl rfl hB83 (by first | omega | (simp; done) | exact Nat.le_of_ble_eq_true rfl) (fun w96 hW96 hB96 => ?_)
              clear hB83
              replace hW83 := Wr.trans hW83 hW96
              replace hE82 := Ext.wr' hE82 hW96 (by omega)
              replace hE70 := Ext.wr' hE70 hW96 (by omega)
              replace hE57 := Ext.wr' hE57 hW96 (by omega)
              replace hE9 := Ext.wr' hE9 hW96 (by omega)
              replace hE0 := Ext.wr' hE0 hW96 (by omega)
              refine Seg.nil ?_
              refine At.then_ ?_
              refine Cd.seq ?_
              refine Cd.seq ?_
              refine Cd.region ?_
              refine Seg.step rfl rfl (Yd.move rfl) ?_
              (refine Seg.call rfl rfl (own_of rfl) rfl (hsm [117, 100, 112] _ (by omega) (by decide)) ?_; rintro _ w103 ⟨rfl, hE103⟩; rw [show decide (lowS right = lowS [117, 100, 112]) = _ from decide_eq_false hut])
              replace hW96 := Wr.trans hW96 (Ext.wr hE103 _)
              replace hB96 := hB96.ext hE103
              replace hW83 := Wr.trans hW83 (Ext.wr hE103 _)
              replace hE82 := Ext.trans hE82 hE103
              replace hE70 := Ext.trans hE70 hE103
              replace hE57 := Ext.trans hE57 hE103
              replace hE9 := Ext.trans hE9 hE103
              replace hE0 := Ext.trans hE0 hE103
              refine Seg.nil ?_
              refine At.then_ ?_
              refine Cd.condF rfl ?_
              refine Cd.skip ?_
              refine At.then_ ?_
              refine Cd.seq ?_
              refine Cd.seq ?_
              refine Cd.region ?_
              refine Seg.step rfl rfl (Yd.move rfl) ?_
              refine Seg.step rfl rfl (Yd.neq rfl rfl) ?_
              refine Seg.step rfl rfl (Yd.move rfl) ?_
              refine Seg.gsplitp rfl rfl (fun h115 => ?_) (fun h115 => ?_)
              · refine Seg.skip rfl rfl ?_
                refine Seg.skip rfl rfl ?_
                refine Seg.skip rfl rfl ?_
                refine Seg.step rfl rfl (Yd.pickT rfl rfl) ?_
                refine Seg.nil ?_
                refine At.then_ ?_
                refine Cd.condT rfl ?_
                refine Cd.exit ?_
                refine At.then_exit ?_
                refine At.blk_same ?_
                refine At.then_ ?_
                refine Cd.region ?_
                refine Seg.step rfl rfl (Yd.move rfl) ?_
                refine Seg.step rfl rfl (Yd.addI rfl rfl (by omega)) ?_
                refine Seg.step rfl rfl (Yd.assign rfl) ?_
                refine Seg.nil ?_
                exact At.round (Z, v, i + 1) (.cons rfl (.cons rfl (.cons rfl (.cons rfl (.nil _))))) ⟨⟨hlt, Nat.le_succ_of_le hZl, hZn⟩, own_ext kO hE0, SvOk.ext kS hE0, Ext.trans kE9 hE0⟩ hms
              · exfalso; omega
          · exfalso; omega
      · by_cases hut : lowS right = [117, 100, 112]
        · have hok : ¬ ok = false := fun h => by rw [hf h] at hut; cases hut
          have hpr : protoB right = 17 := by unfold protoB; rw [if_neg ht, if_pos hut]
          rw [if_neg hok, hpr, if_neg (show ¬ (17 : Int) = 0 by decide)] at hdef
          by_cases he : err = 0
          · subst he
            rw [if_neg (by simp)] at hdef
            refine Cd.seq ?_
            refine Cd.seq ?_
            refine Cd.region ?_
            refine Seg.step rfl rfl (Yd.move rfl) ?_
            refine Seg.step rfl rfl (Yd.move rfl) ?_
            refine Seg.step rfl rfl (Yd.lenS rfl rfl) ?_
            refine Seg.step rfl rfl (Yd.lss rfl rfl) ?_
            refine Seg.nil ?_
            refine At.then_ ?_
            refine Cd.condk rfl (fun h24 => ?_) (fun h24 => ?_)
            rotate_left 1
            · exfalso; omega
            rotate_right 1
            refine Cd.skip ?_
            refine At.then_ ?_
            refine Cd.seq ?_
            refine Cd.block ?_
            refine Cd.seq ?_
            refine Cd.region ?_
            refine Seg.step rfl rfl (Yd.move rfl) ?_
            refine Seg.step rfl rfl (Yd.move rfl) ?_
            refine Seg.step rfl rfl (Yd.indexAddr rfl rfl rfl (NatOf.cast _) (by omega)) ?_
            refine Seg.step rfl rfl (Yd.fieldAddr rfl rfl) ?_
            refine Seg.step rfl rfl (Yd.load1 rfl rfl (hyr _ _ rfl)) ?_
            refine Seg.step rfl rfl (Yd.assign rfl) ?_
            refine Seg.nil ?_
            refine At.then_ ?_
            refine Cd.seq ?_
            refine Cd.seq ?_
            refine Cd.region ?_
            refine Seg.step rfl rfl (Yd.move rfl) ?_
            refine Seg.step rfl rfl (Yd.lenS rfl rfl) ?_
            refine Seg.step rfl rfl (Yd.lss rfl rfl) ?_
            refine Seg.nil ?_
            refine At.then_ ?_
            refine Cd.condk rfl (fun h48 => ?_) (fun h48 => ?_)
            · exfalso; omega
            refine Cd.skip ?_
            refine At.then_ ?_
            refine Cd.seq ?_
            refine Cd.region ?_
            refine Seg.step rfl rfl (Yd.move rfl) ?_
            refine Seg.step rfl rfl (Yd.indexAddr1 rfl rfl rfl (NatOf.cast 1) (by omega)) ?_
            refine Seg.step rfl rfl (Yd.load1 rfl rfl ((hr.ext hE0) _ _ hx1)) ?_
            (refine Seg.call rfl rfl (own_of rfl) rfl (hcut _ hm1) ?_; rintro _ w57 ⟨rfl, hE57⟩)
            replace hO := own_ext hO hE57
            replace hS := hS.ext hE57
            replace hE9 := Ext.trans hE9 hE57
            replace hE0 := Ext.trans hE0 hE57
            replace hyr := hyr.ext hE57
            replace hr := hr.ext hE57
            refine Seg.step rfl rfl (Yd.move rfl) ?_
            refine Seg.step rfl rfl (Yd.extract rfl rfl) ?_
            refine Seg.step rfl rfl (Yd.extract rfl rfl) ?_
            refine Seg.step rfl rfl (Yd.extract rfl rfl) ?_
            refine Seg.step rfl rfl (Yd.assign rfl) ?_
            refine Seg.step rfl rfl (Yd.assign rfl) ?_
            refine Seg.step rfl rfl (Yd.assign rfl) ?_
            refine Seg.nil ?_
            refine At.then_ ?_
            refine Cd.seq ?_
            refine Cd.region ?_
            refine Seg.step rfl rfl (Yd.move rfl) ?_
            (refine Seg.call rfl rfl (own_of rfl) rfl (hnum _ (by omega) (by omega)) ?_; rintro _ w70 ⟨rfl, hE70⟩)
            replace hE57 := Ext.trans hE57 hE70
            replace hO := own_ext hO hE70
            replace hS := hS.ext hE70
            replace hE9 := Ext.trans hE9 hE70
            replace hE0 := Ext.trans hE0 hE70
            replace hyr := hyr.ext hE70
            replace hr := hr.ext hE70
            refine Seg.step rfl rfl (Yd.move rfl) ?_
            refine Seg.step rfl rfl (Yd.extract rfl rfl) ?_
            refine Seg.step rfl rfl (Yd.extract rfl rfl) ?_
            refine Seg.step rfl rfl (Yd.assign rfl) ?_
            refine Seg.step rfl rfl (Yd.assign rfl) ?_
            refine Seg.nil ?_
            refine At.then_ ?_
            refine Cd.seq ?_
            refine Cd.region ?_
            refine Seg.step rfl rfl (Yd.move rfl) ?_
            refine Seg.step rfl rfl (Yd.buildT (cs := _ :: _ :: _ :: []) 3 rfl rfl rfl rfl rfl) ?_
            refine Seg.alloc rfl rfl rfl (fun w82 b82 hE82 hB82 hb82 => ?_)
            have hlt82_0 := Nat.le_trans hE70.size hb82
            have hlt82_1 := Nat.le_trans hE57.size hb82
            have hlt82_2 := Nat.le_trans hE9.size hb82
            have hlt82_3 := Nat.le_trans hE0.size hb82
            replace hE70 := Ext.trans hE70 hE82
            replace hE57 := Ext.trans hE57 hE82
            replace hO := own_ext hO hE82
            replace hS := hS.ext hE82
            replace hE9 := Ext.trans hE9 hE82
            replace hE0 := Ext.trans hE0 hE82
            replace hyr := hyr.ext hE82
            replace hr := hr.ext hE82
            refine Seg.storeN rfl rfl rfl rfl hB82 rfl (by first | assumption | exact List.all_eq_true.1 rfl) (fun w83 hW83 hB83 => ?_)
            clear hB82
            replace hE82 := Ext.wr' hE82 hW83 (by omega)
            replace hE70 := Ext.wr' hE70 hW83 (by omega)
            replace hE57 := Ext.wr' hE57 hW83 (by omega)
            replace hE9 := Ext.wr' hE9 hW83 (by omega)
            replace hE0 := Ext.wr' hE0 hW83 (by omega)
            refine Seg.nil ?_
            refine At.then_ ?_
            refine Cd.seq ?_
            refine Cd.seq ?_
            refine Cd.region ?_
            refine Seg.step rfl rfl (Yd.move rfl) ?_
            (refine Seg.call rfl rfl (own_of rfl) rfl (hsm [116, 99, 112] _ (by omega) (by decide)) ?_; rintro _ w90 ⟨rfl, hE90⟩; rw [show decide (lowS right = lowS [116, 99, 112]) = _ from decide_eq_false ht])
            replace hW83 := Wr.trans hW83 (Ext.wr hE90 _)
            replace hB83 := hB83.ext hE90
            replace hE82 := Ext.trans hE82 hE90
            replace hE70 := Ext.trans hE70 hE90
            replace hE57 := Ext.trans hE57 hE90
            replace hE9 := Ext.trans hE9 hE90
            replace hE0 := Ext.trans hE0 hE90
            refine Seg.nil ?_
            refine At.then_ ?_
            refine Cd.condF rfl ?_
            refine Cd.skip ?_
            refine At.then_ ?_
            refine Cd.seq ?_
            refine Cd.seq ?_
            refine Cd.region ?_
            refine Seg.step rfl rfl (Yd.move rfl) ?_
            (refine Seg.call rfl rfl (own_of rfl) rfl (hsm [117, 100, 112] _ (by omega) (by decide)) ?_; rintro _ w100 ⟨rfl, hE100⟩; rw [show decide (lowS right = lowS [117, 100, 112]) = _ from decide_eq_true hut])
            replace hE90 := Ext.trans hE90 hE100
            replace hW83 := Wr.trans hW83 (Ext.wr hE100 _)
            replace hB83 := hB83.ext hE100
            replace hE82 := Ext.trans hE82 hE100
            replace hE70 := Ext.trans hE70 hE100
            replace hE57 := Ext.trans hE57 hE100
            replace hE9 := Ext.trans hE9 hE100
            replace hE0 := Ext.trans hE0 hE100
            refine Seg.nil ?_
            refine At.then_ ?_
            refine Cd.condT rfl ?_
            refine Cd.region ?_
            refine Seg.step rfl rfl (Yd.fieldAddr rfl rfl) ?_
            refine Seg.store1 rfl rfl rfl rfl rfl hB83 (by first | omega | (simp; done) | exact Nat.le_of_ble_eq_true rfl) (fun w106 hW106 hB106 => ?_)
            clear hB83
            replace hW83 := Wr.trans hW83 hW106
            replace hE82 := Ext.wr' hE82 hW106 (by omega)
            replace hE70 := Ext.wr' hE70 hW106 (by omega)
            replace hE57 := Ext.wr' hE57 hW106 (by omega)
            replace hE9 := Ext.wr' hE9 hW106 (by omega)
            replace hE0 := Ext.wr' hE0 hW106 (by omega)
            refine Seg.nil ?_
            refine At.then_ ?_
            refine Cd.seq ?_
            refine Cd.seq ?_
            refine Cd.region ?_
            refine Seg.step rfl rfl (Yd.move rfl) ?_
            refine Seg.step rfl rfl (Yd.neq rfl rfl) ?_
            refine Seg.step rfl rfl (Yd.move rfl) ?_
            refine Seg.step rfl rfl (Yd.fieldAddr rfl rfl) ?_
            refine Seg.step rfl rfl (Yd.load1 rfl rfl (hB106.row _ _ rfl)) ?_
            refine Seg.step rfl rfl (Yd.eql rfl rfl) ?_
            refine Seg.step rfl rfl (Yd.pickF rfl rfl) ?_
            refine Seg.nil ?_
            refine At.then_ ?_
            refine Cd.condF rfl ?_
            refine Cd.skip ?_
            refine At.then_ ?_
            refine Cd.seq ?_
            refine Cd.anyE (by kernel_rfl) (fun w125 hE125 => ?_)
            replace hW106 := Wr.trans hW106 (Ext.wr hE125 _)
            replace hB106 := hB106.ext hE125
            replace hW83 := Wr.trans hW83 (Ext.wr hE125 _)
            replace hE82 := Ext.trans hE82 hE125
            replace hE70 := Ext.trans hE70 hE125
            replace hE57 := Ext.trans hE57 hE125
            replace hE9 := Ext.trans hE9 hE125
            replace hE0 := Ext.trans hE0 hE125
            refine SegA.pure 0 rfl (by kernel_rfl) (by kernel_rfl) (by kernel_rfl) rfl rfl (fun _ => Yd.fieldAddr rfl rfl) ?_
            refine SegA.pure 2 rfl (by kernel_rfl) (by kernel_rfl) (by kernel_rfl) rfl rfl (fun _ => Yd.move rfl) ?_
            refine SegA.pure 3 rfl (by kernel_rfl) (by kernel_rfl) (by kernel_rfl) rfl rfl (fun _ => Yd.indexAddr1 rfl rfl rfl (NatOf.cast 0) (by omega)) ?_
            refine SegA.held 6 ?_
            refine SegG.take 1 rfl (by kernel_rfl) (by kernel_rfl) (by kernel_rfl) (by kernel_rfl) (by kernel_rfl) rfl rfl (fun w' hw' => Yd.load1 rfl rfl ((hB106.ext hw').row _ _ rfl)) ?_
            refine SegG.oneSeg (o := ⟨_, _, _, _, _, _⟩) 4 rfl (by kernel_rfl) ?_
            refine Seg.step rfl rfl (Yd.load1 rfl rfl (((hu2 ud rfl).ext hE0) _ _ hx0)) ?_
            refine SegG.back rfl (by first | assumption | exact Ext.refl _) ?_
            refine SegG.oneSeg (o := ⟨_, _, _, _, _, _⟩) 5 rfl (by kernel_rfl) ?_
            refine Seg.buildSliceV rfl rfl rfl rfl rfl rfl rfl rfl rfl rfl (fun w135 b135 hE135 hB135 hb135 hO135 => ?_)
            have hlt135_0 := Nat.le_trans hE125.size hb135
            have hlt135_1 := Nat.lt_of_lt_of_le hB106.lt hb135
            have hlt135_2 := Nat.le_trans hE82.size hb135
            have hlt135_3 := Nat.le_trans hE70.size hb135
            have hlt135_4 := Nat.le_trans hE57.size hb135
            have hlt135_5 := Nat.le_trans hE9.size hb135
            have hlt135_6 := Nat.le_trans hE0.size hb135
            replace hE125 := Ext.trans hE125 hE135
            replace hW106 := Wr.trans hW106 (Ext.wr hE135 _)
            replace hB106 := hB106.ext hE135
            replace hW83 := Wr.trans hW83 (Ext.wr hE135 _)
            replace hE82 := Ext.trans hE82 hE135
            replace hE70 := Ext.trans hE70 hE135
            replace hE57 := Ext.trans hE57 hE135
            replace hE9 := Ext.trans hE9 hE135
            replace hE0 := Ext.trans hE0 hE135
            refine SegG.back rfl (by first | assumption | exact Ext.refl _) ?_
            refine SegG.oneSeg (o := ⟨_, _, _, _, _, _⟩) 6 rfl (by kernel_rfl) ?_
            have hBx := (by assumption : Bx _ b82 _)
            have hbl := hBx.lt
            have hb82 : w0.heap.size ≤ b82 := by omega
            refine Seg.appendAt (news := strV [fs.getD 0 []]) (m' := 1) (base := w0.heap.size) rfl rfl rfl rfl rfl rfl rfl rfl rfl (World.ownsRow_nil _ _ _ _) (own_sl (by assumption)) (strV_one _) (Below.size hE0) (by omega) rfl (fun v1 w1 hN hG hAt => ?_)
            have hE0 := Below.grown hE0 hG hE0.size (fun k hk => by simp [Value.ownBlock] at hk)
            have hBx1 := hBx.grown hG (by simp [Value.ownBlock])
            have hnb1 : v1.ownBlock ≠ some b82 := fun h => by
              rcases hAt with h1 | h1 <;> rw [h1] at h <;> simp [Value.ownBlock] at h
              omega
            obtain ⟨va, vc, rfl⟩ := own_shape hN
            refine SegG.end_ rfl ?_
            refine SegA.pure 7 rfl (by kernel_rfl) (by kernel_rfl) (by kernel_rfl) rfl rfl (fun _ => Yd.fieldAddr rfl rfl) ?_
            refine SegA.oneSeg (o := ⟨_, _, _, _, _, _⟩) 8 rfl (by kernel_rfl) ?_
            refine Seg.store1 (k := 0) (v := .slice va (0 + 1) vc) rfl rfl rfl rfl rfl hBx1 (show 0 < 3 by decide) (fun w2 hW2 hBx2 => ?_)
            have hE0 := Below.wr' hE0 hW2 hb82
            have hN := own_wr hN hW2 hnb1
            refine SegA.back ?_
            refine SegA.done (by kernel_rfl) ?_
            refine At.then_ ?_
            refine Cd.seq ?_
            refine Cd.still 4 (by kernel_rfl) (by kernel_rfl) (fun w140 hE140 => ?_)
            replace hW2 := Wr.trans hW2 (Ext.wr hE140 _)
            replace hBx2 := hBx2.ext hE140
            replace hE0 := Ext.trans hE0 hE140
            replace hN := own_ext hN hE140
            refine SegS.step rfl rfl (Yd.fieldAddr rfl rfl) ?_
            refine SegS.step rfl rfl (Yd.load1 rfl rfl (hBx2.row _ _ rfl)) ?_
            refine SegS.step rfl rfl (Yd.move rfl) ?_
            refine SegS.step rfl rfl (Yd.slSlL rfl rfl rfl (NatOf.cast 2) (by omega)) ?_
            refine SegS.nil ?_
            have hBx3 := (by assumption : Bx _ b82 _)
            have hbl3 := hBx3.lt
            have hd2 := drop_cut fs
            refine Seg.appendAt (m' := fs.length - 2) (news := strV (fs.drop 2)) rfl rfl rfl rfl rfl rfl rfl rfl rfl hN (by rw [← hd2]; exact Sl.cut (Sl.ext huk hE0) (by omega) (Nat.le_refl _) (hcap _ _ _ rfl)) (strV_one _) (Below.size hE0) (by omega) rfl (fun v3 w3 hN3 hG3 hAt3 => ?_)
            have hnb3 : v3.ownBlock ≠ some b82 := fun h => by
              rcases hAt3 with h1 | h1 <;> rw [h1] at h
              · exact hnb1 h
              · cases h; exact Nat.lt_irrefl _ hbl3
            have hBx4 := hBx3.grown hG3 hnb1.symm
            have hE0 := Ext.own hE0 hN (Nat.le_refl _) hG3
            obtain ⟨va3, vc3, rfl⟩ := own_shape hN3
            refine Seg.step rfl rfl (Yd.fieldAddr rfl rfl) ?_
            refine Seg.store1 (k := 0) (v := .slice va3 (0 + 1 + (fs.length - 2)) vc3) rfl rfl rfl rfl rfl hBx4 (show 0 < 3 by decide) (fun w4 hW4 hBx5 => ?_)
            have hE0 := Below.wr' hE0 hW4 hb82
            have hN4 : w4.ownsRow w0.heap.size 9 (0 + 1) (.slice va3 (0 + 1 + (fs.length - 2)) vc3) (1 + (fs.length - 2)) ([.string ⟨(fs.getD 0 []).toArray⟩] ++ strV (fs.drop 2)) := own_wr hN3 hW4 hnb3
            have hN5 := names_row h1 hN4
            have hnm : NameAt w4 (.slice va3 (0 + 1 + (fs.length - 2)) vc3) (fs.getD 0 [] :: fs.drop 2) := own_sl hN5
            have hoff := OffP.above (p := fun r => ownP v r ∨ r < w14.heap.size) (own_abc hN5).1 (fun r h => h.elim (fun h => (World.ownsRow.lt kO r h).2) (fun h => Nat.lt_of_lt_of_le h (Below.size kE9)))
            have hEn := Ext.refl w4
            have hZn := hZ' (Z' := Z ++ [((.slice va3 (0 + 1 + (fs.length - 2)) vc3, ⟨fs.getD 0 [] :: fs.drop 2, port, 17⟩) : Sv)]) (by rw [List.map_append, hZ, hdef]; rfl)
            have hkO : ∀ w', Ext w0 w' → w'.ownsRow w14.heap.size 37 3 v Z.length (Z.flatMap svV) := fun _ h => own_ext kO h
            have hln : (Z ++ [((.slice va3 (0 + 1 + (fs.length - 2)) vc3, ⟨fs.getD 0 [] :: fs.drop 2, port, 17⟩) : Sv)]).length ≤ i + 1 := by simp; omega
            refine Seg.nil ?_
            refine At.then_ ?_
            refine Cd.region ?_
            refine Seg.step rfl rfl (Yd.move rfl) ?_
            refine Seg.step rfl rfl (Yd.loadN rfl rfl rfl hBx5.row) ?_
            refine Seg.buildSliceV rfl rfl rfl rfl rfl rfl rfl rfl rfl rfl (fun w146 b146 hE146 hB146 hb146 hO146 => ?_)
            have hlt146_0 := Nat.lt_of_lt_of_le hBx5.lt hb146
            have hlt146_1 := Nat.le_trans hE0.size hb146
            have hlt146_2 := Nat.le_trans hEn.size hb146
            replace hW4 := Wr.trans hW4 (Ext.wr hE146 _)
            replace hBx5 := hBx5.ext hE146
            replace hE0 := Ext.trans hE0 hE146
            replace hN4 := own_ext hN4 hE146
            replace hN5 := own_ext hN5 hE146
            replace hEn := Ext.trans hEn hE146
            (have hOx := hkO _ hE0; refine Seg.appendAt (news := svV (.slice va3 (0 + 1 + (fs.length - 2)) vc3, ⟨fs.getD 0 [] :: fs.drop 2, port, 17⟩)) (m' := 1) rfl rfl rfl rfl rfl rfl rfl rfl rfl hOx (own_sl (by assumption)) (by simp [svV, Value.oneCell']) (Below.size (Ext.trans kE9 hE0)) (by omega) rfl (fun v147 w147 hN9 hG9 hAt9 => ?_); have tot := (Kept.grown hG9 hAt9).mono (q := fun q => ownP v q ∨ q < w14.heap.size) (q' := fun q => ownP v147 q ∨ q < w14.heap.size) (fun r h => .inl h) (fun r h => h.elim .inl (fun h => .inr (.inr h))); have hE9 := Ext.own (Ext.trans kE9 hE0) hOx (Nat.le_refl _) hG9; have hnm := Sl.ext hnm hEn; have hS9 := SvOk.kept (SvOk.ext kS hE0) tot)
            refine Seg.step rfl rfl (Yd.assign rfl) ?_
            refine Seg.nil ?_
            refine At.blk ?_
            refine At.then_ ?_
            refine Cd.region ?_
            refine Seg.step rfl rfl (Yd.move rfl) ?_
            refine Seg.step rfl rfl (Yd.addI rfl rfl (by omega)) ?_
            refine Seg.step rfl rfl (Yd.assign rfl) ?_
            refine Seg.nil ?_
            exact At.round (Z ++ [((.slice va3 (0 + 1 + (fs.length - 2)) vc3, ⟨fs.getD 0 [] :: fs.drop 2, port, 17⟩) : Sv)], _, i + 1) (.cons rfl (.cons rfl (.cons rfl (.cons rfl (.nil _))))) ⟨⟨hlt, hln, hZn⟩, own3_snoc hN9, hS9.snoc (hnm.keptP tot hoff) (hoff.kept hnm tot), hE9⟩ hms
          · rw [if_pos he] at hdef
            have hZn := hZ' (Z' := Z) (by rw [hdef, hZ]; simp)
            refine Cd.seq ?_
            refine Cd.seq ?_
            refine Cd.region ?_
            refine Seg.step rfl rfl (Yd.move rfl) ?_
            refine Seg.step rfl rfl (Yd.move rfl) ?_
            refine Seg.step rfl rfl (Yd.lenS rfl rfl) ?_
            refine Seg.step rfl rfl (Yd.lss rfl rfl) ?_
            refine Seg.nil ?_
            refine At.then_ ?_
            refine Cd.condk rfl (fun h24 => ?_) (fun h24 => ?_)
            · refine Cd.skip ?_
              refine At.then_ ?_
              refine Cd.seq ?_
              refine Cd.block ?_
              refine Cd.seq ?_
              refine Cd.region ?_
              refine Seg.step rfl rfl (Yd.move rfl) ?_
              refine Seg.step rfl rfl (Yd.move rfl) ?_
              refine Seg.step rfl rfl (Yd.indexAddr rfl rfl rfl (NatOf.cast _) (by omega)) ?_
              refine Seg.step rfl rfl (Yd.fieldAddr rfl rfl) ?_
              refine Seg.step rfl rfl (Yd.load1 rfl rfl (hyr _ _ rfl)) ?_
              refine Seg.step rfl rfl (Yd.assign rfl) ?_
              refine Seg.nil ?_
              refine At.then_ ?_
              refine Cd.seq ?_
              refine Cd.seq ?_
              refine Cd.region ?_
              refine Seg.step rfl rfl (Yd.move rfl) ?_
              refine Seg.step rfl rfl (Yd.lenS rfl rfl) ?_
              refine Seg.step rfl rfl (Yd.lss rfl rfl) ?_
              refine Seg.nil ?_
              refine At.then_ ?_
              refine Cd.condk rfl (fun h48 => ?_) (fun h48 => ?_)
              · exfalso; omega
              · refine Cd.skip ?_
                refine At.then_ ?_
                refine Cd.seq ?_
                refine Cd.region ?_
                refine Seg.step rfl rfl (Yd.move rfl) ?_
                refine Seg.step rfl rfl (Yd.indexAddr1 rfl rfl rfl (NatOf.cast 1) (by omega)) ?_
                refine Seg.step rfl rfl (Yd.load1 rfl rfl ((hr.ext hE0) _ _ hx1)) ?_
                (refine Seg.call rfl rfl (own_of rfl) rfl (hcut _ hm1) ?_; rintro _ w57 ⟨rfl, hE57⟩)
                replace hO := own_ext hO hE57
                replace hS := hS.ext hE57
                replace hE9 := Ext.trans hE9 hE57
                replace hE0 := Ext.trans hE0 hE57
                replace hyr := hyr.ext hE57
                replace hr := hr.ext hE57
                refine Seg.step rfl rfl (Yd.move rfl) ?_
                refine Seg.step rfl rfl (Yd.extract rfl rfl) ?_
                refine Seg.step rfl rfl (Yd.extract rfl rfl) ?_
                refine Seg.step rfl rfl (Yd.extract rfl rfl) ?_
                refine Seg.step rfl rfl (Yd.assign rfl) ?_
                refine Seg.step rfl rfl (Yd.assign rfl) ?_
                refine Seg.step rfl rfl (Yd.assign rfl) ?_
                refine Seg.nil ?_
                refine At.then_ ?_
                refine Cd.seq ?_
                refine Cd.region ?_
                refine Seg.step rfl rfl (Yd.move rfl) ?_
                (refine Seg.call rfl rfl (own_of rfl) rfl (hnum _ (by omega) (by omega)) ?_; rintro _ w70 ⟨rfl, hE70⟩)
                replace hE57 := Ext.trans hE57 hE70
                replace hO := own_ext hO hE70
                replace hS := hS.ext hE70
                replace hE9 := Ext.trans hE9 hE70
                replace hE0 := Ext.trans hE0 hE70
                replace hyr := hyr.ext hE70
                replace hr := hr.ext hE70
                refine Seg.step rfl rfl (Yd.move rfl) ?_
                refine Seg.step rfl rfl (Yd.extract rfl rfl) ?_
                refine Seg.step rfl rfl (Yd.extract rfl rfl) ?_
                refine Seg.step rfl rfl (Yd.assign rfl) ?_
                refine Seg.step rfl rfl (Yd.assign rfl) ?_
                refine Seg.nil ?_
                refine At.then_ ?_
                refine Cd.seq ?_
                refine Cd.region ?_
                refine Seg.step rfl rfl (Yd.move rfl) ?_
                refine Seg.step rfl rfl (Yd.buildT (cs := _ :: _ :: _ :: []) 3 rfl rfl rfl rfl rfl) ?_
                refine Seg.alloc rfl rfl rfl (fun w82 b82 hE82 hB82 hb82 => ?_)
                have hlt82_0 := Nat.le_trans hE70.size hb82
                have hlt82_1 := Nat.le_trans hE57.size hb82
                have hlt82_2 := Nat.le_trans hE9.size hb82
                have hlt82_3 := Nat.le_trans hE0.size hb82
                replace hE70 := Ext.trans hE70 hE82
                replace hE57 := Ext.trans hE57 hE82
                replace hO := own_ext hO hE82
                replace hS := hS.ext hE82
                replace hE9 := Ext.trans hE9 hE82
                replace hE0 := Ext.trans hE0 hE82
                replace hyr := hyr.ext hE82
                replace hr := hr.ext hE82
                refine Seg.storeN rfl rfl rfl rfl hB82 rfl (by first | assumption | exact List.all_eq_true.1 rfl) (fun w83 hW83 hB83 => ?_)
                clear hB82
                replace hE82 := Ext.wr' hE82 hW83 (by omega)
                replace hE70 := Ext.wr' hE70 hW83 (by omega)
                replace hE57 := Ext.wr' hE57 hW83 (by omega)
                replace hE9 := Ext.wr' hE9 hW83 (by omega)
                replace hE0 := Ext.wr' hE0 hW83 (by omega)
                refine Seg.nil ?_
                refine At.then_ ?_
                refine Cd.seq ?_
                refine Cd.seq ?_
                refine Cd.region ?_
                refine Seg.step rfl rfl (Yd.move rfl) ?_
                (refine Seg.call rfl rfl (own_of rfl) rfl (hsm [116, 99, 112] _ (by omega) (by decide)) ?_; rintro _ w90 ⟨rfl, hE90⟩; rw [show decide (lowS right = lowS [116, 99, 112]) = _ from decide_eq_false ht])
                replace hW83 := Wr.trans hW83 (Ext.wr hE90 _)
                replace hB83 := hB83.ext hE90
                replace hE82 := Ext.trans hE82 hE90
                replace hE70 := Ext.trans hE70 hE90
                replace hE57 := Ext.trans hE57 hE90
                replace hE9 := Ext.trans hE9 hE90
                replace hE0 := Ext.trans hE0 hE90
                refine Seg.nil ?_
                refine At.then_ ?_
                refine Cd.condF rfl ?_
                refine Cd.skip ?_
                refine At.then_ ?_
                refine Cd.seq ?_
                refine Cd.seq ?_
                refine Cd.region ?_
                refine Seg.step rfl rfl (Yd.move rfl) ?_
                (refine Seg.call rfl rfl (own_of rfl) rfl (hsm [117, 100, 112] _ (by omega) (by decide)) ?_; rintro _ w100 ⟨rfl, hE100⟩; rw [show decide (lowS right = lowS [117, 100, 112]) = _ from decide_eq_true hut])
                replace hE90 := Ext.trans hE90 hE100
                replace hW83 := Wr.trans hW83 (Ext.wr hE100 _)
                replace hB83 := hB83.ext hE100
                replace hE82 := Ext.trans hE82 hE100
                replace hE70 := Ext.trans hE70 hE100
                replace hE57 := Ext.trans hE57 hE100
                replace hE9 := Ext.trans hE9 hE100
                replace hE0 := Ext.trans hE0 hE100
                refine Seg.nil ?_
                refine At.then_ ?_
                refine Cd.condT rfl ?_
                refine Cd.region ?_
                refine Seg.step rfl rfl (Yd.fieldAddr rfl rfl) ?_
                refine Seg.store1 rfl rfl rfl rfl rfl hB83 (by first | omega | (simp; done) | exact Nat.le_of_ble_eq_true rfl) (fun w106 hW106 hB106 => ?_)
                clear hB83
                replace hW83 := Wr.trans hW83 hW106
                replace hE82 := Ext.wr' hE82 hW106 (by omega)
                replace hE70 := Ext.wr' hE70 hW106 (by omega)
                replace hE57 := Ext.wr' hE57 hW106 (by omega)
                replace hE9 := Ext.wr' hE9 hW106 (by omega)
                replace hE0 := Ext.wr' hE0 hW106 (by omega)
                refine Seg.nil ?_
                refine At.then_ ?_
                refine Cd.seq ?_
                refine Cd.seq ?_
                refine Cd.region ?_
                refine Seg.step rfl rfl (Yd.move rfl) ?_
                refine Seg.step rfl rfl (Yd.neq rfl rfl) ?_
                refine Seg.step rfl rfl (Yd.move rfl) ?_
                refine Seg.gsplitp rfl rfl (fun h115 => ?_) (fun h115 => ?_)
                · refine Seg.skip rfl rfl ?_
                  refine Seg.skip rfl rfl ?_
                  refine Seg.skip rfl rfl ?_
                  refine Seg.step rfl rfl (Yd.pickT rfl rfl) ?_
                  refine Seg.nil ?_
                  refine At.then_ ?_
                  refine Cd.condT rfl ?_
                  refine Cd.exit ?_
                  refine At.then_exit ?_
                  refine At.blk_same ?_
                  refine At.then_ ?_
                  refine Cd.region ?_
                  refine Seg.step rfl rfl (Yd.move rfl) ?_
                  refine Seg.step rfl rfl (Yd.addI rfl rfl (by omega)) ?_
                  refine Seg.step rfl rfl (Yd.assign rfl) ?_
                  refine Seg.nil ?_
                  exact At.round (Z, v, i + 1) (.cons rfl (.cons rfl (.cons rfl (.cons rfl (.nil _))))) ⟨⟨hlt, Nat.le_succ_of_le hZl, hZn⟩, own_ext kO hE0, SvOk.ext kS hE0, Ext.trans kE9 hE0⟩ hms
                · exfalso; omega
            · exfalso; omega
        · have hpr : protoB right = 0 := by unfold protoB; rw [if_neg ht, if_neg hut]
          have hdefN : svcB fs = none := by
            rw [hdef]
            split
            · rfl
            · split
              · rfl
              · first
                | rfl
                | rw [if_pos hpr]
          clear hdef
          have hdef := hdefN
          by_cases he : err = 0
          · subst he
            have hZn := hZ' (Z' := Z) (by rw [hdef, hZ]; simp)
            refine Cd.seq ?_
            refine Cd.seq ?_
            refine Cd.region ?_
            refine Seg.step rfl rfl (Yd.move rfl) ?_
            refine Seg.step rfl rfl (Yd.move rfl) ?_
            refine Seg.step rfl rfl (Yd.lenS rfl rfl) ?_
            refine Seg.step rfl rfl (Yd.lss rfl rfl) ?_
            refine Seg.nil ?_
            refine At.then_ ?_
            refine Cd.condk rfl (fun h24 => ?_) (fun h24 => ?_)
            · refine Cd.skip ?_
              refine At.then_ ?_
              refine Cd.seq ?_
              refine Cd.block ?_
              refine Cd.seq ?_
              refine Cd.region ?_
              refine Seg.step rfl rfl (Yd.move rfl) ?_
              refine Seg.step rfl rfl (Yd.move rfl) ?_
              refine Seg.step rfl rfl (Yd.indexAddr rfl rfl rfl (NatOf.cast _) (by omega)) ?_
              refine Seg.step rfl rfl (Yd.fieldAddr rfl rfl) ?_
              refine Seg.step rfl rfl (Yd.load1 rfl rfl (hyr _ _ rfl)) ?_
              refine Seg.step rfl rfl (Yd.assign rfl) ?_
              refine Seg.nil ?_
              refine At.then_ ?_
              refine Cd.seq ?_
              refine Cd.seq ?_
              refine Cd.region ?_
              refine Seg.step rfl rfl (Yd.move rfl) ?_
              refine Seg.step rfl rfl (Yd.lenS rfl rfl) ?_
              refine Seg.step rfl rfl (Yd.lss rfl rfl) ?_
              refine Seg.nil ?_
              refine At.then_ ?_
              refine Cd.condk rfl (fun h48 => ?_) (fun h48 => ?_)
              · exfalso; omega
              · refine Cd.skip ?_
                refine At.then_ ?_
                refine Cd.seq ?_
                refine Cd.region ?_
                refine Seg.step rfl rfl (Yd.move rfl) ?_
                refine Seg.step rfl rfl (Yd.indexAddr1 rfl rfl rfl (NatOf.cast 1) (by omega)) ?_
                refine Seg.step rfl rfl (Yd.load1 rfl rfl ((hr.ext hE0) _ _ hx1)) ?_
                (refine Seg.call rfl rfl (own_of rfl) rfl (hcut _ hm1) ?_; rintro _ w57 ⟨rfl, hE57⟩)
                replace hO := own_ext hO hE57
                replace hS := hS.ext hE57
                replace hE9 := Ext.trans hE9 hE57
                replace hE0 := Ext.trans hE0 hE57
                replace hyr := hyr.ext hE57
                replace hr := hr.ext hE57
                refine Seg.step rfl rfl (Yd.move rfl) ?_
                refine Seg.step rfl rfl (Yd.extract rfl rfl) ?_
                refine Seg.step rfl rfl (Yd.extract rfl rfl) ?_
                refine Seg.step rfl rfl (Yd.extract rfl rfl) ?_
                refine Seg.step rfl rfl (Yd.assign rfl) ?_
                refine Seg.step rfl rfl (Yd.assign rfl) ?_
                refine Seg.step rfl rfl (Yd.assign rfl) ?_
                refine Seg.nil ?_
                refine At.then_ ?_
                refine Cd.seq ?_
                refine Cd.region ?_
                refine Seg.step rfl rfl (Yd.move rfl) ?_
                (refine Seg.call rfl rfl (own_of rfl) rfl (hnum _ (by omega) (by omega)) ?_; rintro _ w70 ⟨rfl, hE70⟩)
                replace hE57 := Ext.trans hE57 hE70
                replace hO := own_ext hO hE70
                replace hS := hS.ext hE70
                replace hE9 := Ext.trans hE9 hE70
                replace hE0 := Ext.trans hE0 hE70
                replace hyr := hyr.ext hE70
                replace hr := hr.ext hE70
                refine Seg.step rfl rfl (Yd.move rfl) ?_
                refine Seg.step rfl rfl (Yd.extract rfl rfl) ?_
                refine Seg.step rfl rfl (Yd.extract rfl rfl) ?_
                refine Seg.step rfl rfl (Yd.assign rfl) ?_
                refine Seg.step rfl rfl (Yd.assign rfl) ?_
                refine Seg.nil ?_
                refine At.then_ ?_
                refine Cd.seq ?_
                refine Cd.region ?_
                refine Seg.step rfl rfl (Yd.move rfl) ?_
                refine Seg.step rfl rfl (Yd.buildT (cs := _ :: _ :: _ :: []) 3 rfl rfl rfl rfl rfl) ?_
                refine Seg.alloc rfl rfl rfl (fun w82 b82 hE82 hB82 hb82 => ?_)
                have hlt82_0 := Nat.le_trans hE70.size hb82
                have hlt82_1 := Nat.le_trans hE57.size hb82
                have hlt82_2 := Nat.le_trans hE9.size hb82
                have hlt82_3 := Nat.le_trans hE0.size hb82
                replace hE70 := Ext.trans hE70 hE82
                replace hE57 := Ext.trans hE57 hE82
                replace hO := own_ext hO hE82
                replace hS := hS.ext hE82
                replace hE9 := Ext.trans hE9 hE82
                replace hE0 := Ext.trans hE0 hE82
                replace hyr := hyr.ext hE82
                replace hr := hr.ext hE82
                refine Seg.storeN rfl rfl rfl rfl hB82 rfl (by first | assumption | exact List.all_eq_true.1 rfl) (fun w83 hW83 hB83 => ?_)
                clear hB82
                replace hE82 := Ext.wr' hE82 hW83 (by omega)
                replace hE70 := Ext.wr' hE70 hW83 (by omega)
                replace hE57 := Ext.wr' hE57 hW83 (by omega)
                replace hE9 := Ext.wr' hE9 hW83 (by omega)
                replace hE0 := Ext.wr' hE0 hW83 (by omega)
                refine Seg.nil ?_
                refine At.then_ ?_
                refine Cd.seq ?_
                refine Cd.seq ?_
                refine Cd.region ?_
                refine Seg.step rfl rfl (Yd.move rfl) ?_
                (refine Seg.call rfl rfl (own_of rfl) rfl (hsm [116, 99, 112] _ (by omega) (by decide)) ?_; rintro _ w90 ⟨rfl, hE90⟩; rw [show decide (lowS right = lowS [116, 99, 112]) = _ from decide_eq_false ht])
                replace hW83 := Wr.trans hW83 (Ext.wr hE90 _)
                replace hB83 := hB83.ext hE90
                replace hE82 := Ext.trans hE82 hE90
                replace hE70 := Ext.trans hE70 hE90
                replace hE57 := Ext.trans hE57 hE90
                replace hE9 := Ext.trans hE9 hE90
                replace hE0 := Ext.trans hE0 hE90
                refine Seg.nil ?_
                refine At.then_ ?_
                refine Cd.condF rfl ?_
                refine Cd.skip ?_
                refine At.then_ ?_
                refine Cd.seq ?_
                refine Cd.seq ?_
                refine Cd.region ?_
                refine Seg.step rfl rfl (Yd.move rfl) ?_
                (refine Seg.call rfl rfl (own_of rfl) rfl (hsm [117, 100, 112] _ (by omega) (by decide)) ?_; rintro _ w100 ⟨rfl, hE100⟩; rw [show decide (lowS right = lowS [117, 100, 112]) = _ from decide_eq_false hut])
                replace hE90 := Ext.trans hE90 hE100
                replace hW83 := Wr.trans hW83 (Ext.wr hE100 _)
                replace hB83 := hB83.ext hE100
                replace hE82 := Ext.trans hE82 hE100
                replace hE70 := Ext.trans hE70 hE100
                replace hE57 := Ext.trans hE57 hE100
                replace hE9 := Ext.trans hE9 hE100
                replace hE0 := Ext.trans hE0 hE100
                refine Seg.nil ?_
                refine At.then_ ?_
                refine Cd.condF rfl ?_
                refine Cd.skip ?_
                refine At.then_ ?_
                refine Cd.seq ?_
                refine Cd.seq ?_
                refine Cd.region ?_
                refine Seg.step rfl rfl (Yd.move rfl) ?_
                refine Seg.step rfl rfl (Yd.neq rfl rfl) ?_
                refine Seg.step rfl rfl (Yd.move rfl) ?_
                refine Seg.step rfl rfl (Yd.fieldAddr rfl rfl) ?_
                refine Seg.step rfl rfl (Yd.load1 rfl rfl (hB83.row _ _ rfl)) ?_
                refine Seg.step rfl rfl (Yd.eql rfl rfl) ?_
                refine Seg.step rfl rfl (Yd.pickF rfl rfl) ?_
                refine Seg.nil ?_
                refine At.then_ ?_
                refine Cd.condT rfl ?_
                refine Cd.exit ?_
                refine At.then_exit ?_
                refine At.blk_same ?_
                refine At.then_ ?_
                refine Cd.region ?_
                refine Seg.step rfl rfl (Yd.move rfl) ?_
                refine Seg.step rfl rfl (Yd.addI rfl rfl (by omega)) ?_
                refine Seg.step rfl rfl (Yd.assign rfl) ?_
                refine Seg.nil ?_
                exact At.round (Z, v, i + 1) (.cons rfl (.cons rfl (.cons rfl (.cons rfl (.nil _))))) ⟨⟨hlt, Nat.le_succ_of_le hZl, hZn⟩, own_ext kO hE0, SvOk.ext kS hE0, Ext.trans kE9 hE0⟩ hms
            · exfalso; omega
          · have hZn := hZ' (Z' := Z) (by rw [hdef, hZ]; simp)
            refine Cd.seq ?_
            refine Cd.seq ?_
            refine Cd.region ?_
            refine Seg.step rfl rfl (Yd.move rfl) ?_
            refine Seg.step rfl rfl (Yd.move rfl) ?_
            refine Seg.step rfl rfl (Yd.lenS rfl rfl) ?_
            refine Seg.step rfl rfl (Yd.lss rfl rfl) ?_
            refine Seg.nil ?_
            refine At.then_ ?_
            refine Cd.condk rfl (fun h24 => ?_) (fun h24 => ?_)
            · refine Cd.skip ?_
              refine At.then_ ?_
              refine Cd.seq ?_
              refine Cd.block ?_
              refine Cd.seq ?_
              refine Cd.region ?_
              refine Seg.step rfl rfl (Yd.move rfl) ?_
              refine Seg.step rfl rfl (Yd.move rfl) ?_
              refine Seg.step rfl rfl (Yd.indexAddr rfl rfl rfl (NatOf.cast _) (by omega)) ?_
              refine Seg.step rfl rfl (Yd.fieldAddr rfl rfl) ?_
              refine Seg.step rfl rfl (Yd.load1 rfl rfl (hyr _ _ rfl)) ?_
              refine Seg.step rfl rfl (Yd.assign rfl) ?_
              refine Seg.nil ?_
              refine At.then_ ?_
              refine Cd.seq ?_
              refine Cd.seq ?_
              refine Cd.region ?_
              refine Seg.step rfl rfl (Yd.move rfl) ?_
              refine Seg.step rfl rfl (Yd.lenS rfl rfl) ?_
              refine Seg.step rfl rfl (Yd.lss rfl rfl) ?_
              refine Seg.nil ?_
              refine At.then_ ?_
              refine Cd.condk rfl (fun h48 => ?_) (fun h48 => ?_)
              · exfalso; omega
              · refine Cd.skip ?_
                refine At.then_ ?_
                refine Cd.seq ?_
                refine Cd.region ?_
                refine Seg.step rfl rfl (Yd.move rfl) ?_
                refine Seg.step rfl rfl (Yd.indexAddr1 rfl rfl rfl (NatOf.cast 1) (by omega)) ?_
                refine Seg.step rfl rfl (Yd.load1 rfl rfl ((hr.ext hE0) _ _ hx1)) ?_
                (refine Seg.call rfl rfl (own_of rfl) rfl (hcut _ hm1) ?_; rintro _ w57 ⟨rfl, hE57⟩)
                replace hO := own_ext hO hE57
                replace hS := hS.ext hE57
                replace hE9 := Ext.trans hE9 hE57
                replace hE0 := Ext.trans hE0 hE57
                replace hyr := hyr.ext hE57
                replace hr := hr.ext hE57
                refine Seg.step rfl rfl (Yd.move rfl) ?_
                refine Seg.step rfl rfl (Yd.extract rfl rfl) ?_
                refine Seg.step rfl rfl (Yd.extract rfl rfl) ?_
                refine Seg.step rfl rfl (Yd.extract rfl rfl) ?_
                refine Seg.step rfl rfl (Yd.assign rfl) ?_
                refine Seg.step rfl rfl (Yd.assign rfl) ?_
                refine Seg.step rfl rfl (Yd.assign rfl) ?_
                refine Seg.nil ?_
                refine At.then_ ?_
                refine Cd.seq ?_
                refine Cd.region ?_
                refine Seg.step rfl rfl (Yd.move rfl) ?_
                (refine Seg.call rfl rfl (own_of rfl) rfl (hnum _ (by omega) (by omega)) ?_; rintro _ w70 ⟨rfl, hE70⟩)
                replace hE57 := Ext.trans hE57 hE70
                replace hO := own_ext hO hE70
                replace hS := hS.ext hE70
                replace hE9 := Ext.trans hE9 hE70
                replace hE0 := Ext.trans hE0 hE70
                replace hyr := hyr.ext hE70
                replace hr := hr.ext hE70
                refine Seg.step rfl rfl (Yd.move rfl) ?_
                refine Seg.step rfl rfl (Yd.extract rfl rfl) ?_
                refine Seg.step rfl rfl (Yd.extract rfl rfl) ?_
                refine Seg.step rfl rfl (Yd.assign rfl) ?_
                refine Seg.step rfl rfl (Yd.assign rfl) ?_
                refine Seg.nil ?_
                refine At.then_ ?_
                refine Cd.seq ?_
                refine Cd.region ?_
                refine Seg.step rfl rfl (Yd.move rfl) ?_
                refine Seg.step rfl rfl (Yd.buildT (cs := _ :: _ :: _ :: []) 3 rfl rfl rfl rfl rfl) ?_
                refine Seg.alloc rfl rfl rfl (fun w82 b82 hE82 hB82 hb82 => ?_)
                have hlt82_0 := Nat.le_trans hE70.size hb82
                have hlt82_1 := Nat.le_trans hE57.size hb82
                have hlt82_2 := Nat.le_trans hE9.size hb82
                have hlt82_3 := Nat.le_trans hE0.size hb82
                replace hE70 := Ext.trans hE70 hE82
                replace hE57 := Ext.trans hE57 hE82
                replace hO := own_ext hO hE82
                replace hS := hS.ext hE82
                replace hE9 := Ext.trans hE9 hE82
                replace hE0 := Ext.trans hE0 hE82
                replace hyr := hyr.ext hE82
                replace hr := hr.ext hE82
                refine Seg.storeN rfl rfl rfl rfl hB82 rfl (by first | assumption | exact List.all_eq_true.1 rfl) (fun w83 hW83 hB83 => ?_)
                clear hB82
                replace hE82 := Ext.wr' hE82 hW83 (by omega)
                replace hE70 := Ext.wr' hE70 hW83 (by omega)
                replace hE57 := Ext.wr' hE57 hW83 (by omega)
                replace hE9 := Ext.wr' hE9 hW83 (by omega)
                replace hE0 := Ext.wr' hE0 hW83 (by omega)
                refine Seg.nil ?_
                refine At.then_ ?_
                refine Cd.seq ?_
                refine Cd.seq ?_
                refine Cd.region ?_
                refine Seg.step rfl rfl (Yd.move rfl) ?_
                (refine Seg.call rfl rfl (own_of rfl) rfl (hsm [116, 99, 112] _ (by omega) (by decide)) ?_; rintro _ w90 ⟨rfl, hE90⟩; rw [show decide (lowS right = lowS [116, 99, 112]) = _ from decide_eq_false ht])
                replace hW83 := Wr.trans hW83 (Ext.wr hE90 _)
                replace hB83 := hB83.ext hE90
                replace hE82 := Ext.trans hE82 hE90
                replace hE70 := Ext.trans hE70 hE90
                replace hE57 := Ext.trans hE57 hE90
                replace hE9 := Ext.trans hE9 hE90
                replace hE0 := Ext.trans hE0 hE90
                refine Seg.nil ?_
                refine At.then_ ?_
                refine Cd.condF rfl ?_
                refine Cd.skip ?_
                refine At.then_ ?_
                refine Cd.seq ?_
                refine Cd.seq ?_
                refine Cd.region ?_
                refine Seg.step rfl rfl (Yd.move rfl) ?_
                (refine Seg.call rfl rfl (own_of rfl) rfl (hsm [117, 100, 112] _ (by omega) (by decide)) ?_; rintro _ w100 ⟨rfl, hE100⟩; rw [show decide (lowS right = lowS [117, 100, 112]) = _ from decide_eq_false hut])
                replace hE90 := Ext.trans hE90 hE100
                replace hW83 := Wr.trans hW83 (Ext.wr hE100 _)
                replace hB83 := hB83.ext hE100
                replace hE82 := Ext.trans hE82 hE100
                replace hE70 := Ext.trans hE70 hE100
                replace hE57 := Ext.trans hE57 hE100
                replace hE9 := Ext.trans hE9 hE100
                replace hE0 := Ext.trans hE0 hE100
                refine Seg.nil ?_
                refine At.then_ ?_
                refine Cd.condF rfl ?_
                refine Cd.skip ?_
                refine At.then_ ?_
                refine Cd.seq ?_
                refine Cd.seq ?_
                refine Cd.region ?_
                refine Seg.step rfl rfl (Yd.move rfl) ?_
                refine Seg.step rfl rfl (Yd.neq rfl rfl) ?_
                refine Seg.step rfl rfl (Yd.move rfl) ?_
                refine Seg.gsplitp rfl rfl (fun h112 => ?_) (fun h112 => ?_)
                · refine Seg.skip rfl rfl ?_
                  refine Seg.skip rfl rfl ?_
                  refine Seg.skip rfl rfl ?_
                  refine Seg.step rfl rfl (Yd.pickT rfl rfl) ?_
                  refine Seg.nil ?_
                  refine At.then_ ?_
                  refine Cd.condT rfl ?_
                  refine Cd.exit ?_
                  refine At.then_exit ?_
                  refine At.blk_same ?_
                  refine At.then_ ?_
                  refine Cd.region ?_
                  refine Seg.step rfl rfl (Yd.move rfl) ?_
                  refine Seg.step rfl rfl (Yd.addI rfl rfl (by omega)) ?_
                  refine Seg.step rfl rfl (Yd.assign rfl) ?_
                  refine Seg.nil ?_
                  exact At.round (Z, v, i + 1) (.cons rfl (.cons rfl (.cons rfl (.cons rfl (.nil _))))) ⟨⟨hlt, Nat.le_succ_of_le hZl, hZn⟩, own_ext kO hE0, SvOk.ext kS hE0, Ext.trans kE9 hE0⟩ hms
                · exfalso; omega
            · exfalso; omega
  · have hie : i = X.length := by omega
    have hfin : Z.map Prod.snd = prsB s := by rw [hZ, hie, List.take_length, hmap]; rfl
    refine Cd.seq ?_
    refine Cd.seq ?_
    refine Cd.region ?_
    refine Seg.step rfl rfl (Yd.move rfl) ?_
    refine Seg.step rfl rfl (Yd.move rfl) ?_
    refine Seg.step rfl rfl (Yd.lenS rfl rfl) ?_
    refine Seg.step rfl rfl (Yd.lss rfl rfl) ?_
    refine Seg.nil ?_
    refine At.then_ ?_
    refine Cd.condk rfl (fun h24 => ?_) (fun h24 => ?_)
    · exfalso; omega
    · refine Cd.exit ?_
      refine At.then_exit ?_
      refine At.then_exit ?_
      refine At.blk_same ?_
      refine At.then_ ?_
      refine Cd.seq ?_
      refine Cd.region ?_
      refine Seg.step rfl rfl (Yd.move rfl) ?_
      refine Seg.step rfl rfl (Yd.assign rfl) ?_
      refine Seg.nil ?_
      refine At.then_ ?_
      refine Cd.ret ?_
      exact At.ret Try.results11 (.tmp rfl .nil) ⟨⟨Z, own_low hO (Below.size kE), fun x hx => ⟨(hS x hx).1, (hS x hx).2.sub (fun r h => h.imp id (fun h => Nat.lt_of_lt_of_le h (Below.size kE)))⟩, hfin⟩, Ext.trans kE hE9⟩
end Go.Proofs.Ytbmgigbedmgfpaa
