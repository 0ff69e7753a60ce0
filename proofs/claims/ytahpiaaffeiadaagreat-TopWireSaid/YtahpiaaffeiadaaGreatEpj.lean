/- Names read: packed.Get. -/
import Derived.Test.YtahpiaaffeiadaaGreatEph
import Derived.Test.YtahpiaaffeiadaaGreatWdf
import Derived.Test.YtahpiaaffeiadaaGreatEst
namespace Go.Proofs.YtahpiaaffeiadaaGreat
open Go Go.RowKit
theorem Rdn.lt {s : List UInt8} {f a bd b : Nat} {n : List (List UInt8)} (h : Rdn s f a bd n b) : a < s.length := by
  cases h with
  | zero h _ => exact h
  | lab _ h _ _ _ _ _ => exact h
  | ptr _ h _ _ _ _ => omega
theorem pget1_idle (x y z : Value) (w : World) : CallsD Tryz.prog 88 #[x, y, z] .returning w fun e u' w' => e = .returned (.tuple #[]) ∧ u' = .returning ∧ w' = w := by
  refine callsD_of_wpS Tryz.func88 rfl fun c₀ cs hu => ?_
  apply wpS_seq
  apply wpS_region
  simp [wpOpsS, go_sem, recoverD, hu, Tryz.ntmps88, Exit.thenS]
  apply wpS_seq
  apply wpS_seq
  apply wpS_region
  simp [wpOpsS, go_sem, Exit.thenS]
  refine wpS_cond (t := true) (by simp [Act.eval, Array.replicate]) ?_
  simp only [if_true]
  refine wpS_of_wp (wp_ret ?_)
  cases c₀
  simp_all [bodyPostS, results, Tryz.results88, Exit.thenS]
theorem pget_any (s : List UInt8) (f0 at0 b0 : Nat) (n : List (List UInt8)) (w : World) (hR : Rdn s f0 at0 at0 n b0) (hl : s.length ≤ 65535) (hz : szN n ≤ 255) :
    Ret Tryz.prog 71 #[.string ⟨s.toArray⟩, .int .i64 (at0 : Int)] w fun v w' => (∃ u, v = .tuple #[u, .int .i64 (b0 : Int), .int .i64 0] ∧ OwnS w' w.heap.size u n) ∧ Ext w w' := by
  have hE0 := Ext.refl w
  have hat := hR.lt
  have h1 : ¬ (at0 : Int) < 0 := by omega
  have h2 : ¬ (s.length : Int) < (at0 : Int) := by omega
  refine Ret.bodyD Tryz.func71 rfl Tryz.ntmps71 rfl (Cd.seq (Cd.region (Seg.alloc rfl rfl rfl (fun w5 b5 hE5 hB5 hb5 => ?_))))
  have hlt5_0 := Nat.le_trans hE0.size hb5
  replace hE0 := Ext.trans hE0 hE5
  refine Seg.alloc rfl rfl rfl (fun w6 b6 hE6 hB6 hb6 => ?_)
  have hlt6_0 := Nat.le_trans hE5.size hb6
  have hlt6_1 := Nat.lt_of_lt_of_le hB5.lt hb6
  have hlt6_2 := Nat.le_trans hE0.size hb6
  replace hE5 := Ext.trans hE5 hE6
  replace hB5 := hB5.ext hE6
  replace hE0 := Ext.trans hE0 hE6
  refine Seg.alloc rfl rfl rfl (fun w7 b7 hE7 hB7 hb7 => ?_)
  have hlt7_0 := Nat.le_trans hE6.size hb7
  have hlt7_1 := Nat.lt_of_lt_of_le hB6.lt hb7
  have hlt7_2 := Nat.le_trans hE5.size hb7
  have hlt7_3 := Nat.lt_of_lt_of_le hB5.lt hb7
  have hlt7_4 := Nat.le_trans hE0.size hb7
  replace hE6 := Ext.trans hE6 hE7
  replace hB6 := hB6.ext hE7
  replace hE5 := Ext.trans hE5 hE7
  replace hB5 := hB5.ext hE7
  replace hE0 := Ext.trans hE0 hE7
  refine Seg.nil (At.then_ (Cd.seq (Cd.seq (Cd.region (Seg.step rfl rfl (Yd.move rfl) (Seg.step rfl rfl (Yd.lss rfl rfl) (Seg.step rfl rfl (Yd.move rfl) ?_)))))))
  refine Seg.step rfl rfl (Yd.move rfl) (Seg.step rfl rfl (Yd.move rfl) (Seg.step rfl rfl (Yd.lenStr rfl rfl) (Seg.step rfl rfl (Yd.gtr rfl rfl) (Seg.step rfl rfl (Yd.pickF rfl rfl) (Seg.nil (At.then_ ?_))))))
  refine Cd.condk rfl (fun h23 => ?_) (fun h23 => ?_)
  · exfalso; omega
  refine Cd.skip (At.then_ (Cd.seq (Cd.region (Seg.step rfl rfl (Yd.makeFunc rfl rfl) (Seg.defer (cap := [.pointer (some ⟨b5, 0, none⟩), .pointer (some ⟨b6, 0, none⟩), .pointer (some ⟨b7, 0, none⟩)]) rfl rfl ?_)))))
  have hE9 := Ext.refl w7
  have hEw7 : Keep (Ext w w7) := by assumption
  have hv5 : w.heap.size ≤ b5 := by omega
  have hv6 : w.heap.size ≤ b6 := by omega
  have hv7 : w.heap.size ≤ b7 := by omega
  have k5 : Keep (Bx w7 b5 [.slice none 0 0]) := hB5
  have k6 : Keep (Bx w7 b6 [.int .i64 0]) := hB6
  have k7 : Keep (Bx w7 b7 [.int .i64 0]) := hB7
  have hl5 := hB5.lt
  have hl6 := hB6.lt
  have hl7 := hB7.lt
  clear hB5 hB6 hB7
  refine Seg.nil (At.then_ (Cd.seq (Cd.region (Seg.step rfl rfl (Yd.move rfl) (Seg.step rfl rfl (Yd.move rfl) (Seg.step rfl rfl (Yd.buildT (cs := _ :: _ :: _ :: _ :: []) 4 rfl rfl rfl rfl rfl) (Seg.alloc rfl rfl rfl (fun w31 b31 hE31 hB31 hb31 => ?_))))))))
  have hlt31_0 := Nat.le_trans hE7.size hb31
  have hlt31_1 := Nat.le_trans hE6.size hb31
  have hlt31_2 := Nat.le_trans hE5.size hb31
  have hlt31_3 := Nat.le_trans hE0.size hb31
  have hlt31_4 := Nat.le_trans hE9.size hb31
  replace hE7 := Ext.trans hE7 hE31
  replace hE6 := Ext.trans hE6 hE31
  replace hE5 := Ext.trans hE5 hE31
  replace hE0 := Ext.trans hE0 hE31
  replace hE9 := Ext.trans hE9 hE31
  refine Seg.storeN rfl rfl rfl rfl hB31 rfl (by first | assumption | exact List.all_eq_true.1 rfl) (fun w32 hW32 hB32 => ?_)
  clear hB31
  replace hE31 := Ext.wr' hE31 hW32 (by omega)
  replace hE7 := Ext.wr' hE7 hW32 (by omega)
  replace hE6 := Ext.wr' hE6 hW32 (by omega)
  replace hE5 := Ext.wr' hE5 hW32 (by omega)
  replace hE0 := Ext.wr' hE0 hW32 (by omega)
  replace hE9 := Ext.wr' hE9 hW32 (by omega)
  refine Seg.nil (At.then_ (Cd.seq (Cd.region ?_)))
  (refine Seg.call rfl rfl (own_of rfl) rfl (rread_any w7 s b31 w32.heap.size f0 at0 n b0 _ hR (by assumption) (by assumption) (by assumption) (Below.size (by assumption : Ext w7 w32)) (Nat.le_refl _) hl hz) ?_; rintro _ w37 ⟨rfl, ⟨ra, rz, rv, hB37, hO37⟩, hE37, hS37⟩; obtain ⟨ro, rc, rfl, _, _, _⟩ := own_sl hO37; have hB5 := Bx.ext k5 hE37; have hB6 := Bx.ext k6 hE37; have hB7 := Bx.ext k7 hE37; have kO : Keep (OwnS w37 w32.heap.size _ n) := hO37; have kE : Keep (Ext w7 w37) := hE37; have hEn := Ext.refl w37; clear hO37; have hk5 := Nat.lt_of_lt_of_le hl5 (Below.size (by assumption : Ext w7 w32)); have hk6 := Nat.lt_of_lt_of_le hl6 (Below.size (by assumption : Ext w7 w32)); have hk7 := Nat.lt_of_lt_of_le hl7 (Below.size (by assumption : Ext w7 w32)); have hk9 := Below.size (by assumption : Ext w w32))
  refine Seg.store1h rfl rfl rfl rfl rfl hB6 (by first | omega | (simp; done) | exact Nat.le_of_ble_eq_true rfl) (fun w38 hW38 hB38 => ?_)
  clear hB6
  replace hB37 := hB37.wr hW38 (by omega)
  replace hB5 := hB5.wr hW38 (by omega)
  replace hB7 := hB7.wr hW38 (by omega)
  refine Seg.nil (At.then_ (Cd.seq (Cd.anyE (by kernel_rfl) (fun w42 hE42 => ?_))))
  replace hW38 := Wr.trans hW38 (Ext.wr hE42 _)
  replace hB38 := hB38.ext hE42
  replace hB37 := hB37.ext hE42
  replace hB5 := hB5.ext hE42
  replace hB7 := hB7.ext hE42
  refine SegA.pure 0 rfl (by kernel_rfl) (by kernel_rfl) (by kernel_rfl) rfl rfl (fun _ => Yd.fieldAddr rfl rfl) (SegA.held 3 (SegG.take 1 rfl (by kernel_rfl) (by kernel_rfl) (by kernel_rfl) (by kernel_rfl) (by kernel_rfl) rfl rfl (fun w' hw' => Yd.load1 rfl rfl ((hB37.ext hw').row _ _ rfl)) ?_))
  refine SegG.twoSeg (o := ⟨_, _, _, _, _, _⟩) (o' := ⟨_, _, _, _, _, _⟩) 2 3 rfl rfl (by kernel_rfl) ?_ ?_
  refine Seg.step rfl rfl (Yd.load1 rfl rfl hB38.row.head) (SegG.back rfl (by first | assumption | exact Ext.refl _) (SegG.oneSeg (o := ⟨_, _, _, _, _, _⟩) 3 rfl (by kernel_rfl) ?_))
  refine Seg.store1h rfl rfl rfl rfl rfl hB5 (by first | omega | (simp; done) | exact Nat.le_of_ble_eq_true rfl) (fun w50 hW50 hB50 => ?_)
  clear hB5
  replace hB38 := hB38.wr hW50 (by omega)
  replace hB37 := hB37.wr hW50 (by omega)
  replace hB7 := hB7.wr hW50 (by omega)
  refine SegG.end_ rfl (SegA.oneSeg (o := ⟨_, _, _, _, _, _⟩) 4 rfl (by kernel_rfl) ?_)
  refine Seg.store1h rfl rfl rfl rfl rfl hB38 (by first | omega | (simp; done) | exact Nat.le_of_ble_eq_true rfl) (fun w53 hW53 hB53 => ?_)
  clear hB38
  replace hB50 := hB50.wr hW53 (by omega)
  replace hB37 := hB37.wr hW53 (by omega)
  replace hB7 := hB7.wr hW53 (by omega)
  refine SegA.back (SegA.oneSeg (o := ⟨_, _, _, _, _, _⟩) 5 rfl (by kernel_rfl) ?_)
  refine Seg.store1h rfl rfl rfl rfl rfl hB7 (by first | omega | (simp; done) | exact Nat.le_of_ble_eq_true rfl) (fun w56 hW56 hB56 => ?_)
  clear hB7
  replace hB53 := hB53.wr hW56 (by omega)
  replace hB50 := hB50.wr hW56 (by omega)
  replace hB37 := hB37.wr hW56 (by omega)
  refine SegA.back (SegA.done (by kernel_rfl) (At.then_ (Cd.ret ?_)))
  exact At.retD1 (f := 88) Tryz.results71 (own_of rfl) (pget1_idle _ _ _ _) (.cell rfl (run_loadVar1 rfl (show Bx _ b5 [.slice ro n.length rc] by assumption).row.head) (.cell rfl (run_loadVar1 rfl (show Bx _ b6 [.int .i64 (b0 : Int)] by assumption).row.head) (.cell rfl (run_loadVar1 rfl (show Bx _ b7 [.int .i64 0] by assumption).row.head) .nil))) ⟨⟨_, rfl, own_down (own_wr (own_wr (own_wr (own_wr kO hW38 (own_noblk kO hk6)) hW50 (own_noblk kO hk5)) hW53 (own_noblk kO hk6)) hW56 (own_noblk kO hk7)) hk9⟩, Ext.wr' (Ext.wr' (Ext.wr' (Ext.wr' (Ext.trans hEw7 kE) hW38 hv6) hW50 hv5) hW53 hv6) hW56 hv7⟩
  refine Seg.store1h rfl rfl rfl rfl rfl hB5 (by first | omega | (simp; done) | exact Nat.le_of_ble_eq_true rfl) (fun w43 hW43 hB43 => ?_)
  clear hB5
  replace hB38 := hB38.wr hW43 (by omega)
  replace hB37 := hB37.wr hW43 (by omega)
  replace hB7 := hB7.wr hW43 (by omega)
  refine SegG.end_ rfl (SegA.oneSeg (o := ⟨_, _, _, _, _, _⟩) 2 rfl (by kernel_rfl) (Seg.step rfl rfl (Yd.load1 rfl rfl hB38.row.head) (SegA.back (SegA.oneSeg (o := ⟨_, _, _, _, _, _⟩) 4 rfl (by kernel_rfl) ?_))))
  refine Seg.store1h rfl rfl rfl rfl rfl hB38 (by first | omega | (simp; done) | exact Nat.le_of_ble_eq_true rfl) (fun w49 hW49 hB49 => ?_)
  clear hB38
  replace hB43 := hB43.wr hW49 (by omega)
  replace hB37 := hB37.wr hW49 (by omega)
  replace hB7 := hB7.wr hW49 (by omega)
  refine SegA.back (SegA.oneSeg (o := ⟨_, _, _, _, _, _⟩) 5 rfl (by kernel_rfl) ?_)
  refine Seg.store1h rfl rfl rfl rfl rfl hB7 (by first | omega | (simp; done) | exact Nat.le_of_ble_eq_true rfl) (fun w52 hW52 hB52 => ?_)
  clear hB7
  replace hB49 := hB49.wr hW52 (by omega)
  replace hB43 := hB43.wr hW52 (by omega)
  replace hB37 := hB37.wr hW52 (by omega)
  refine SegA.back (SegA.done (by kernel_rfl) (At.then_ (Cd.ret ?_)))
  exact At.retD1 (f := 88) Tryz.results71 (own_of rfl) (pget1_idle _ _ _ _) (.cell rfl (run_loadVar1 rfl (show Bx _ b5 [.slice ro n.length rc] by assumption).row.head) (.cell rfl (run_loadVar1 rfl (show Bx _ b6 [.int .i64 (b0 : Int)] by assumption).row.head) (.cell rfl (run_loadVar1 rfl (show Bx _ b7 [.int .i64 0] by assumption).row.head) .nil))) ⟨⟨_, rfl, own_down (own_wr (own_wr (own_wr (own_wr kO hW38 (own_noblk kO hk6)) hW43 (own_noblk kO hk5)) hW49 (own_noblk kO hk6)) hW52 (own_noblk kO hk7)) hk9⟩, Ext.wr' (Ext.wr' (Ext.wr' (Ext.wr' (Ext.trans hEw7 kE) hW38 hv6) hW43 hv5) hW49 hv6) hW52 hv7⟩
end Go.Proofs.YtahpiaaffeiadaaGreat
