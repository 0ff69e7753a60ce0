/- Small letters; labels of hosts; the sizes of names. -/
import Derived.Test.YtahpiaaffeiadaaGreatEhd
namespace Go.Proofs.YtahpiaaffeiadaaGreat
open Go Go.RowKit
def lowB (b : UInt8) : UInt8 := if 65 ≤ b.toNat ∧ b.toNat ≤ 90 then b + 32 else b
def lowS (l : List UInt8) : List UInt8 := l.map lowB
theorem lowB_nat (b : UInt8) : (lowB b).toNat = if 65 ≤ b.toNat ∧ b.toNat ≤ 90 then b.toNat + 32 else b.toNat := by
  unfold lowB
  split
  · rename_i h
    rw [UInt8.toNat_add]
    have : (32 : UInt8).toNat = 32 := rfl
    omega
  · rfl
theorem low_in {b : UInt8} (h : (65 : Int) ≤ b.toNat) (h' : (b.toNat : Int) ≤ 90) : Value.int .u8 (IntKind.u8.wrap ((b.toNat : Int) + 32)) = .int .u8 (lowB b).toNat := by
  rw [lowB_nat, if_pos (by omega), u8_id (by omega) (by omega)]
  rfl
theorem low_out {b : UInt8} (h : ¬ ((65 : Int) ≤ b.toNat ∧ (b.toNat : Int) ≤ 90)) : Value.int .u8 (b.toNat : Int) = .int .u8 (lowB b).toNat := by
  rw [lowB_nat, if_neg (by omega)]
theorem small_any (b : UInt8) (w : World) : Ret Tryz.prog 78 #[.int .u8 b.toNat] w fun v w' => v = .int .u8 (lowB b).toNat ∧ Ext w w' := by
  have hE0 := Ext.refl w
  refine Ret.body Tryz.func78 rfl Tryz.ntmps78 rfl (Cd.seq (Cd.region (Seg.step rfl rfl (Yd.assign rfl) (Seg.nil (At.then_ (Cd.seq (Cd.seq ?_)))))))
  refine Cd.region (Seg.step rfl rfl (Yd.move rfl) (Seg.step rfl rfl (Yd.leq rfl rfl) (Seg.step rfl rfl (Yd.move rfl) ?_)))
  refine Seg.gsplitp rfl rfl (fun h12 => ?_) (fun h12 => ?_)
  · refine Seg.step rfl rfl (Yd.move rfl) (Seg.step rfl rfl (Yd.leq rfl rfl) (Seg.step rfl rfl (Yd.pickT rfl rfl) (Seg.nil (At.then_ ?_))))
    refine Cd.condk rfl (fun h19 => ?_) (fun h19 => ?_)
    · refine Cd.seq (Cd.region (Seg.step rfl rfl (Yd.move rfl) (Seg.step rfl rfl (Yd.add rfl rfl) (Seg.step rfl rfl (Yd.assign rfl) (Seg.nil (At.then_ (Cd.ret ?_)))))))
      refine At.then_ret ?_
      first | exact At.ret Tryz.results78 (.tmp rfl .nil) ⟨low_in (by omega) (by omega), hE0⟩ | exact At.ret Tryz.results78 (.tmp rfl .nil) ⟨low_out (by omega), hE0⟩
    · refine Cd.skip (At.then_ (Cd.seq (Cd.region (Seg.step rfl rfl (Yd.move rfl) (Seg.step rfl rfl (Yd.assign rfl) (Seg.nil (At.then_ ?_)))))))
      refine Cd.ret ?_
      first | exact At.ret Tryz.results78 (.tmp rfl .nil) ⟨low_in (by omega) (by omega), hE0⟩ | exact At.ret Tryz.results78 (.tmp rfl .nil) ⟨low_out (by omega), hE0⟩
  · refine Seg.skip rfl rfl (Seg.skip rfl rfl (Seg.step rfl rfl (Yd.pickF rfl rfl) (Seg.nil (At.then_ (Cd.condF rfl (Cd.skip (At.then_ ?_)))))))
    refine Cd.seq (Cd.region (Seg.step rfl rfl (Yd.move rfl) (Seg.step rfl rfl (Yd.assign rfl) (Seg.nil (At.then_ (Cd.ret ?_))))))
    first | exact At.ret Tryz.results78 (.tmp rfl .nil) ⟨low_in (by omega) (by omega), hE0⟩ | exact At.ret Tryz.results78 (.tmp rfl .nil) ⟨low_out (by omega), hE0⟩
theorem lowS_length (l : List UInt8) : (lowS l).length = l.length := by simp [lowS]
theorem drop_at {l : List UInt8} {i : Nat} (h : i < l.length) : l.drop i = l.getD i 0 :: l.drop (i + 1) := by
  rw [List.drop_eq_getElem_cons h]
  simp [List.getD, h]
theorem low_take {l : List UInt8} {i : Nat} (h : i < l.length) : lowS (l.take (i + 1)) = lowS (l.take i) ++ [lowB (l.getD i 0)] := by
  rw [take_get h, lowS, List.map_append]; rfl
theorem bytesV_app (a b : List UInt8) : bytesV (a ++ b) = bytesV a ++ bytesV b := by simp [bytesV]
theorem bytesV_len (a : List UInt8) : (bytesV a).length = a.length := by simp [bytesV]
theorem bytesV_cons (b : UInt8) (a : List UInt8) : bytesV (b :: a) = .int .u8 b.toNat :: bytesV a := rfl
/-- Letter i of those of which the first i are small. -/
theorem low_get {l : List UInt8} {zs : List Value} {i : Nat} (h : i < l.length) : (bytesV (lowS (l.take i) ++ l.drop i) ++ zs)[i]? = some (.int .u8 (l.getD i 0).toNat) := by
  have hl : (bytesV (lowS (l.take i))).length = i := by rw [bytesV_len, lowS_length, List.length_take]; omega
  rw [bytesV_app, List.append_assoc, List.getElem?_append_right (by omega), hl, Nat.sub_self, drop_at h, bytesV_cons]
  rfl
theorem low_set {l : List UInt8} {zs : List Value} {i : Nat} (h : i < l.length) : (bytesV (lowS (l.take i) ++ l.drop i) ++ zs).set i (.int .u8 (lowB (l.getD i 0)).toNat) = bytesV (lowS (l.take (i + 1)) ++ l.drop (i + 1)) ++ zs := by
  have hl : (bytesV (lowS (l.take i))).length = i := by rw [bytesV_len, lowS_length, List.length_take]; omega
  rw [bytesV_app, List.append_assoc, List.set_append_right _ _ (by omega), hl, Nat.sub_self, drop_at h, low_take h, bytesV_cons, bytesV_app, bytesV_app, List.append_assoc, List.append_assoc]
  rfl
theorem lower_any (l : List UInt8) (w : World) (hl : l.length ≤ 1000000) : Ret Tryz.prog 62 #[.string ⟨l.toArray⟩] w fun v w' => v = .string ⟨(lowS l).toArray⟩ ∧ Ext w w' := by
  have hE0 := Ext.refl w
  refine Ret.body Tryz.func62 rfl Tryz.ntmps62 rfl (Cd.seq (Cd.region (Seg.step rfl rfl (Yd.assign rfl) (Seg.nil (At.then_ (Cd.seq (Cd.region ?_)))))))
  refine Seg.step rfl rfl (Yd.assign rfl) (Seg.nil (At.then_ (Cd.seq (Cd.block ?_))))
  refine Cd.loop (σ := Nat) (fun i => [(0, .string ⟨l.toArray⟩), (3, .int .i64 (i : Int))])
    (fun i w' => i ≤ l.length ∧ lowS (l.take i) = l.take i ∧ Ext w w') (fun i => l.length - i) 0 (.cons rfl (.cons rfl (.nil _))) ⟨Nat.zero_le _, rfl, hE0⟩ ?_
  clear hE0
  rintro i w0 ⟨hi, hT, hE0⟩
  by_cases hlt : i < l.length
  · by_cases he : lowB (l.getD i 0) = l.getD i 0
    · have he' : ((lowB (l.getD i 0)).toNat : Int) = (l.getD i 0).toNat := by rw [he]
      have hT' : lowS (l.take (i + 1)) = l.take (i + 1) := by rw [low_take hlt, hT, he, ← take_get hlt]
      refine Cd.seq (Cd.seq (Cd.anyE (by kernel_rfl) (fun w3 hE3 => ?_)))
      replace hE0 := Ext.trans hE0 hE3
      refine SegA.pure 0 rfl (by kernel_rfl) (by kernel_rfl) (by kernel_rfl) rfl rfl (fun _ => Yd.move rfl) (SegA.pure 1 rfl (by kernel_rfl) (by kernel_rfl) (by kernel_rfl) rfl rfl (fun _ => Yd.move rfl) (SegA.pure 2 rfl (by kernel_rfl) (by kernel_rfl) (by kernel_rfl) rfl rfl (fun _ => Yd.lenStr rfl rfl) (SegA.pure 3 rfl (by kernel_rfl) (by kernel_rfl) (by kernel_rfl) rfl rfl (fun _ => Yd.lss rfl rfl) (SegA.pure 4 rfl (by kernel_rfl) (by kernel_rfl) (by kernel_rfl) rfl rfl (fun _ => Yd.move rfl) (SegA.held 14 ?_)))))
      refine SegG.gsplitp 5 rfl rfl rfl (fun h10 => ?_) (fun h10 => ?_)
      · refine SegG.take 5 rfl (by kernel_rfl) (by kernel_rfl) (by kernel_rfl) (by kernel_rfl) (by kernel_rfl) rfl rfl (fun w' hw' => Yd.move rfl) (SegG.take 6 rfl (by kernel_rfl) (by kernel_rfl) (by kernel_rfl) (by kernel_rfl) (by kernel_rfl) rfl rfl (fun w' hw' => Yd.move rfl) (SegG.take 7 rfl (by kernel_rfl) (by kernel_rfl) (by kernel_rfl) (by kernel_rfl) (by kernel_rfl) rfl rfl (fun w' hw' => Yd.indexStr rfl rfl rfl (NatOf.cast _) (by omega)) (SegG.take 9 rfl (by kernel_rfl) (by kernel_rfl) (by kernel_rfl) (by kernel_rfl) (by kernel_rfl) rfl rfl (fun w' hw' => Yd.move rfl) (SegG.take 10 rfl (by kernel_rfl) (by kernel_rfl) (by kernel_rfl) (by kernel_rfl) (by kernel_rfl) rfl rfl (fun w' hw' => Yd.move rfl) (SegG.take 11 rfl (by kernel_rfl) (by kernel_rfl) (by kernel_rfl) (by kernel_rfl) (by kernel_rfl) rfl rfl (fun w' hw' => Yd.indexStr rfl rfl rfl (NatOf.cast _) (by omega)) (SegG.oneSeg (o := ⟨_, _, _, _, _, _⟩) 8 rfl (by kernel_rfl) ?_))))))
        (refine Seg.call rfl rfl (own_of rfl) rfl (small_any _ _) ?_; rintro _ w19 ⟨rfl, hE19⟩)
        replace hE3 := Ext.trans hE3 hE19
        replace hE0 := Ext.trans hE0 hE19
        refine SegG.back rfl (by first | assumption | exact Ext.refl _) (SegG.take 12 rfl (by kernel_rfl) (by kernel_rfl) (by kernel_rfl) (by kernel_rfl) (by kernel_rfl) rfl rfl (fun w' hw' => Yd.eql rfl rfl) (SegG.take 13 rfl (by kernel_rfl) (by kernel_rfl) (by kernel_rfl) (by kernel_rfl) (by kernel_rfl) rfl rfl (fun w' hw' => Yd.pickT rfl rfl) (SegG.done (by kernel_rfl) (At.then_ ?_))))
        refine Cd.condk rfl (fun h25 => ?_) (fun h25 => ?_)
        · refine Cd.skip (At.then_ (Cd.block (Cd.region (Seg.step rfl rfl (Yd.move rfl) (Seg.step rfl rfl (Yd.addI rfl rfl (by omega)) (Seg.step rfl rfl (Yd.assign rfl) (Seg.nil ?_)))))))
          refine At.blk ?_
          exact At.round (i + 1) (.cons rfl (.cons rfl (.nil _))) ⟨hlt, hT', hE0⟩ (Nat.sub_lt_sub_left hlt (Nat.lt_succ_self i))
        · exfalso; omega
      · exfalso; omega
    · have he' : ¬ ((lowB (l.getD i 0)).toNat : Int) = (l.getD i 0).toNat := fun h => he (u8_ne.1 h)
      refine Cd.seq (Cd.seq (Cd.anyE (by kernel_rfl) (fun w3 hE3 => ?_)))
      replace hE0 := Ext.trans hE0 hE3
      refine SegA.pure 0 rfl (by kernel_rfl) (by kernel_rfl) (by kernel_rfl) rfl rfl (fun _ => Yd.move rfl) (SegA.pure 1 rfl (by kernel_rfl) (by kernel_rfl) (by kernel_rfl) rfl rfl (fun _ => Yd.move rfl) (SegA.pure 2 rfl (by kernel_rfl) (by kernel_rfl) (by kernel_rfl) rfl rfl (fun _ => Yd.lenStr rfl rfl) (SegA.pure 3 rfl (by kernel_rfl) (by kernel_rfl) (by kernel_rfl) rfl rfl (fun _ => Yd.lss rfl rfl) (SegA.pure 4 rfl (by kernel_rfl) (by kernel_rfl) (by kernel_rfl) rfl rfl (fun _ => Yd.move rfl) (SegA.held 14 ?_)))))
      refine SegG.gsplitp 5 rfl rfl rfl (fun h10 => ?_) (fun h10 => ?_)
      rotate_left 1
      · exfalso; omega
      rotate_right 1
      refine SegG.take 5 rfl (by kernel_rfl) (by kernel_rfl) (by kernel_rfl) (by kernel_rfl) (by kernel_rfl) rfl rfl (fun w' hw' => Yd.move rfl) (SegG.take 6 rfl (by kernel_rfl) (by kernel_rfl) (by kernel_rfl) (by kernel_rfl) (by kernel_rfl) rfl rfl (fun w' hw' => Yd.move rfl) (SegG.take 7 rfl (by kernel_rfl) (by kernel_rfl) (by kernel_rfl) (by kernel_rfl) (by kernel_rfl) rfl rfl (fun w' hw' => Yd.indexStr rfl rfl rfl (NatOf.cast _) (by omega)) (SegG.take 9 rfl (by kernel_rfl) (by kernel_rfl) (by kernel_rfl) (by kernel_rfl) (by kernel_rfl) rfl rfl (fun w' hw' => Yd.move rfl) (SegG.take 10 rfl (by kernel_rfl) (by kernel_rfl) (by kernel_rfl) (by kernel_rfl) (by kernel_rfl) rfl rfl (fun w' hw' => Yd.move rfl) (SegG.take 11 rfl (by kernel_rfl) (by kernel_rfl) (by kernel_rfl) (by kernel_rfl) (by kernel_rfl) rfl rfl (fun w' hw' => Yd.indexStr rfl rfl rfl (NatOf.cast _) (by omega)) (SegG.oneSeg (o := ⟨_, _, _, _, _, _⟩) 8 rfl (by kernel_rfl) ?_))))))
      (refine Seg.call rfl rfl (own_of rfl) rfl (small_any _ _) ?_; rintro _ w19 ⟨rfl, hE19⟩)
      replace hE3 := Ext.trans hE3 hE19
      replace hE0 := Ext.trans hE0 hE19
      refine SegG.back rfl (by first | assumption | exact Ext.refl _) (SegG.take 12 rfl (by kernel_rfl) (by kernel_rfl) (by kernel_rfl) (by kernel_rfl) (by kernel_rfl) rfl rfl (fun w' hw' => Yd.eql rfl rfl) (SegG.take 13 rfl (by kernel_rfl) (by kernel_rfl) (by kernel_rfl) (by kernel_rfl) (by kernel_rfl) rfl rfl (fun w' hw' => Yd.pickT rfl rfl) (SegG.done (by kernel_rfl) (At.then_ ?_))))
      refine Cd.condk rfl (fun h25 => ?_) (fun h25 => ?_)
      · exfalso; omega
      refine Cd.exit (At.then_exit (At.then_exit (At.blk_same (At.then_ (Cd.seq (Cd.seq (Cd.region ?_)))))))
      refine Seg.step rfl rfl (Yd.move rfl) (Seg.step rfl rfl (Yd.move rfl) (Seg.step rfl rfl (Yd.lenStr rfl rfl) (Seg.step rfl rfl (Yd.eql rfl rfl) (Seg.nil (At.then_ ?_)))))
      refine Cd.condk rfl (fun h41 => ?_) (fun h41 => ?_)
      · exfalso; omega
      refine Cd.skip (At.then_ (Cd.seq (Cd.region (Seg.step rfl rfl (Yd.move rfl) ?_))))
      (refine Seg.stb rfl rfl rfl rfl rfl rfl (fun w48 b48 zs cc hE48 hB48 hL48 => ?_); have hwb := Nat.le_trans (Below.size hE0) hL48)
      refine Seg.step rfl rfl (Yd.assign rfl) (Seg.nil (At.then_ (Cd.seq (Cd.block ?_))))
      have hB0 : Bf w48 b48 (bytesV (lowS (l.take i) ++ l.drop i) ++ zs) := by rw [hT, List.take_append_drop]; exact hB48
      clear hB48 hL48
      refine Cd.loop (σ := Nat) (fun j => [(3, .int .i64 (j : Int)), (4, .slice (some ⟨b48, 0, none⟩) l.length cc)])
        (fun j w' => j ≤ l.length ∧ Bf w' b48 (bytesV (lowS (l.take j) ++ l.drop j) ++ zs) ∧ Ext w w') (fun j => l.length - j) i (.cons rfl (.cons rfl (.nil _))) ⟨hi, hB0, Ext.trans hE0 hE48⟩ ?_
      clear hE0 hB0
      rintro j w1 ⟨hj, hB, hE0⟩
      by_cases hjl : j < l.length
      · have hlen : j < (bytesV (lowS (l.take j) ++ l.drop j) ++ zs).length := by
          rw [List.length_append, bytesV_len, List.length_append, lowS_length, List.length_take, List.length_drop]; omega
        refine Cd.seq (Cd.seq (Cd.region (Seg.step rfl rfl (Yd.move rfl) (Seg.step rfl rfl (Yd.move rfl) (Seg.step rfl rfl (Yd.lenS rfl rfl) (Seg.step rfl rfl (Yd.lss rfl rfl) (Seg.nil ?_)))))))
        refine At.then_ ?_
        refine Cd.condk rfl (fun h58 => ?_) (fun h58 => ?_)
        · refine Cd.skip (At.then_ (Cd.seq (Cd.block (Cd.region (Seg.step rfl rfl (Yd.move rfl) (Seg.step rfl rfl (Yd.move rfl) (Seg.step rfl rfl (Yd.move rfl) ?_)))))))
          refine Seg.step rfl rfl (Yd.move rfl) (Seg.step rfl rfl (Yd.indexAddr1 rfl rfl rfl (NatOf.cast _) (by omega)) (Seg.step rfl rfl (Yd.load1 rfl rfl (hB.row _ _ (low_get hjl))) ?_))
          (refine Seg.call rfl rfl (own_of rfl) rfl (small_any _ _) ?_; rintro _ w71 ⟨rfl, hE71⟩)
          replace hB := hB.ext hE71
          replace hE0 := Ext.trans hE0 hE71
          refine Seg.step rfl rfl (Yd.indexAddr1 rfl rfl rfl (NatOf.cast _) (by omega)) ?_
          (refine Seg.storeF rfl rfl rfl rfl rfl hB hlen (fun w73 hW hB' => ?_); rw [low_set hjl] at hB'; replace hE0 := hE0.wr' hW hwb)
          refine Seg.nil (At.blk (At.then_ (Cd.region (Seg.step rfl rfl (Yd.move rfl) (Seg.step rfl rfl (Yd.addI rfl rfl (by omega)) (Seg.step rfl rfl (Yd.assign rfl) (Seg.nil ?_)))))))
          exact At.round (j + 1) (.cons rfl (.cons rfl (.nil _))) ⟨hjl, hB', hE0⟩ (Nat.sub_lt_sub_left hjl (Nat.lt_succ_self j))
        · exfalso; omega
      · have hfin : lowS (l.take j) ++ l.drop j = lowS l := by rw [List.take_of_length_le (by omega), List.drop_of_length_le (by omega), List.append_nil]
        rw [hfin] at hB
        have hS : Sl w1 1 (.slice (some ⟨b48, 0, none⟩) l.length cc) (lowS l).length (bytesV (lowS l)) := by rw [lowS_length]; exact hB.sl (by rw [bytesV_len, lowS_length]) cc
        refine Cd.seq (Cd.seq (Cd.region (Seg.step rfl rfl (Yd.move rfl) (Seg.step rfl rfl (Yd.move rfl) (Seg.step rfl rfl (Yd.lenS rfl rfl) (Seg.step rfl rfl (Yd.lss rfl rfl) (Seg.nil ?_)))))))
        refine At.then_ ?_
        refine Cd.condk rfl (fun h58 => ?_) (fun h58 => ?_)
        · exfalso; omega
        · refine Cd.exit (At.then_exit (At.then_exit (At.blk_same (At.then_ (Cd.seq (Cd.region (Seg.step rfl rfl (Yd.move rfl) ?_)))))))
          (refine Seg.step rfl rfl (Yd.bts (l := lowS l) rfl rfl rfl rfl hS) ?_)
          refine Seg.step rfl rfl (Yd.assign rfl) (Seg.nil (At.then_ (Cd.ret ?_)))
          exact At.ret Tryz.results62 (.tmp rfl .nil) ⟨rfl, by assumption⟩
  · have hil : l.take i = l := List.take_of_length_le (by omega)
    rw [hil] at hT
    have hR : Value.string ⟨l.toArray⟩ = .string ⟨(lowS l).toArray⟩ := by rw [hT]
    refine Cd.seq (Cd.seq (Cd.anyE (by kernel_rfl) (fun w3 hE3 => ?_)))
    replace hE0 := Ext.trans hE0 hE3
    refine SegA.pure 0 rfl (by kernel_rfl) (by kernel_rfl) (by kernel_rfl) rfl rfl (fun _ => Yd.move rfl) (SegA.pure 1 rfl (by kernel_rfl) (by kernel_rfl) (by kernel_rfl) rfl rfl (fun _ => Yd.move rfl) (SegA.pure 2 rfl (by kernel_rfl) (by kernel_rfl) (by kernel_rfl) rfl rfl (fun _ => Yd.lenStr rfl rfl) (SegA.pure 3 rfl (by kernel_rfl) (by kernel_rfl) (by kernel_rfl) rfl rfl (fun _ => Yd.lss rfl rfl) (SegA.pure 4 rfl (by kernel_rfl) (by kernel_rfl) (by kernel_rfl) rfl rfl (fun _ => Yd.move rfl) (SegA.held 14 ?_)))))
    refine SegG.gsplitp 5 rfl rfl rfl (fun h10 => ?_) (fun h10 => ?_)
    · exfalso; omega
    · refine SegG.skip 5 rfl (by kernel_rfl) (by kernel_rfl) (by kernel_rfl) (by kernel_rfl) (by kernel_rfl) rfl rfl (SegG.skip 6 rfl (by kernel_rfl) (by kernel_rfl) (by kernel_rfl) (by kernel_rfl) (by kernel_rfl) rfl rfl (SegG.skip 7 rfl (by kernel_rfl) (by kernel_rfl) (by kernel_rfl) (by kernel_rfl) (by kernel_rfl) rfl rfl (SegG.skip 8 rfl (by kernel_rfl) (by kernel_rfl) (by kernel_rfl) (by kernel_rfl) (by kernel_rfl) rfl rfl (SegG.skip 9 rfl (by kernel_rfl) (by kernel_rfl) (by kernel_rfl) (by kernel_rfl) (by kernel_rfl) rfl rfl (SegG.skip 10 rfl (by kernel_rfl) (by kernel_rfl) (by kernel_rfl) (by kernel_rfl) (by kernel_rfl) rfl rfl (SegG.skip 11 rfl (by kernel_rfl) (by kernel_rfl) (by kernel_rfl) (by kernel_rfl) (by kernel_rfl) rfl rfl (SegG.skip 12 rfl (by kernel_rfl) (by kernel_rfl) (by kernel_rfl) (by kernel_rfl) (by kernel_rfl) rfl rfl ?_)))))))
      refine SegG.take 13 rfl (by kernel_rfl) (by kernel_rfl) (by kernel_rfl) (by kernel_rfl) (by kernel_rfl) rfl rfl (fun w' hw' => Yd.pickF rfl rfl) (SegG.done (by kernel_rfl) (At.then_ (Cd.condF rfl (Cd.exit (At.then_exit (At.then_exit (At.blk_same ?_)))))))
      refine At.then_ (Cd.seq (Cd.seq (Cd.region (Seg.step rfl rfl (Yd.move rfl) (Seg.step rfl rfl (Yd.move rfl) (Seg.step rfl rfl (Yd.lenStr rfl rfl) (Seg.step rfl rfl (Yd.eql rfl rfl) ?_)))))))
      refine Seg.nil (At.then_ ?_)
      refine Cd.condk rfl (fun h38 => ?_) (fun h38 => ?_)
      · refine Cd.seq (Cd.region (Seg.step rfl rfl (Yd.move rfl) (Seg.step rfl rfl (Yd.assign rfl) (Seg.nil (At.then_ (Cd.ret (At.then_ret ?_)))))))
        exact At.ret Tryz.results62 (.tmp rfl .nil) ⟨hR, by assumption⟩
      · exfalso; omega
/-- A letter, a digit or a hyphen. -/
def plainI (c : Int) : Prop := (97 ≤ c ∧ c ≤ 122) ∨ (65 ≤ c ∧ c ≤ 90) ∨ (48 ≤ c ∧ c ≤ 57) ∨ c = 45
instance (c : Int) : Decidable (plainI c) := by unfold plainI; infer_instance
theorem plain_last {c : Int} (h1 : ¬ (97 ≤ c ∧ c ≤ 122)) (h2 : ¬ (65 ≤ c ∧ c ≤ 90)) (h3 : ¬ (48 ≤ c ∧ c ≤ 57)) : Value.bool (decide (c = 45)) = .bool (decide (plainI c)) := by
  congr 1
  rw [decide_eq_decide]
  unfold plainI
  omega
theorem lplain_any (c : Int) (w : World) : Ret Tryz.prog 77 #[.int .i32 c] w fun v w' => v = .bool (decide (plainI c)) ∧ Ext w w' := by
  have hE0 := Ext.refl w
  refine Ret.body Tryz.func77 rfl Tryz.ntmps77 rfl (Cd.seq (Cd.region (Seg.step rfl rfl (Yd.assign rfl) (Seg.nil (At.then_ (Cd.seq (Cd.region ?_)))))))
  refine Seg.step rfl rfl (Yd.move rfl) (Seg.step rfl rfl (Yd.leq rfl rfl) (Seg.step rfl rfl (Yd.move rfl) ?_))
  refine Seg.gsplitp rfl rfl (fun h11 => ?_) (fun h11 => ?_)
  · refine Seg.step rfl rfl (Yd.move rfl) (Seg.step rfl rfl (Yd.leq rfl rfl) (Seg.step rfl rfl (Yd.pickT rfl rfl) (Seg.step rfl rfl (Yd.move rfl) ?_)))
    refine Seg.gsplitp rfl rfl (fun h17 => ?_) (fun h17 => ?_)
    · refine Seg.skip rfl rfl (Seg.skip rfl rfl (Seg.skip rfl rfl (Seg.skip rfl rfl (Seg.skip rfl rfl (Seg.skip rfl rfl (Seg.step rfl rfl (Yd.pickT rfl rfl) (Seg.step rfl rfl (Yd.move rfl) ?_)))))))
      refine Seg.skip rfl rfl (Seg.skip rfl rfl (Seg.skip rfl rfl (Seg.skip rfl rfl (Seg.skip rfl rfl (Seg.skip rfl rfl (Seg.step rfl rfl (Yd.pickT rfl rfl) (Seg.step rfl rfl (Yd.move rfl) ?_)))))))
      refine Seg.skip rfl rfl (Seg.skip rfl rfl (Seg.step rfl rfl (Yd.pickT rfl rfl) (Seg.step rfl rfl (Yd.assign rfl) (Seg.nil (At.then_ (Cd.ret ?_))))))
      first | exact At.ret Tryz.results77 (.tmp rfl .nil) ⟨bT (by unfold plainI; omega), hE0⟩ | exact At.ret Tryz.results77 (.tmp rfl .nil) ⟨plain_last (by omega) (by omega) (by omega), hE0⟩
    · refine Seg.step rfl rfl (Yd.move rfl) (Seg.step rfl rfl (Yd.leq rfl rfl) (Seg.step rfl rfl (Yd.move rfl) ?_))
      refine Seg.gsplitp rfl rfl (fun h47 => ?_) (fun h47 => ?_)
      · refine Seg.step rfl rfl (Yd.move rfl) (Seg.step rfl rfl (Yd.leq rfl rfl) (Seg.step rfl rfl (Yd.pickT rfl rfl) (Seg.step rfl rfl (Yd.pickF rfl rfl) (Seg.step rfl rfl (Yd.move rfl) ?_))))
        refine Seg.gsplitp rfl rfl (fun h54 => ?_) (fun h54 => ?_)
        · exfalso; omega
        · refine Seg.step rfl rfl (Yd.move rfl) (Seg.step rfl rfl (Yd.leq rfl rfl) (Seg.step rfl rfl (Yd.move rfl) ?_))
          refine Seg.gsplitp rfl rfl (fun h59 => ?_) (fun h59 => ?_)
          · refine Seg.step rfl rfl (Yd.move rfl) (Seg.step rfl rfl (Yd.leq rfl rfl) (Seg.step rfl rfl (Yd.pickT rfl rfl) (Seg.step rfl rfl (Yd.pickF rfl rfl) (Seg.step rfl rfl (Yd.move rfl) ?_))))
            refine Seg.gsplitp rfl rfl (fun h66 => ?_) (fun h66 => ?_)
            · exfalso; omega
            · refine Seg.step rfl rfl (Yd.move rfl) (Seg.step rfl rfl (Yd.eql rfl rfl) (Seg.step rfl rfl (Yd.pickF rfl rfl) (Seg.step rfl rfl (Yd.assign rfl) (Seg.nil (At.then_ (Cd.ret ?_))))))
              first | exact At.ret Tryz.results77 (.tmp rfl .nil) ⟨bT (by unfold plainI; omega), hE0⟩ | exact At.ret Tryz.results77 (.tmp rfl .nil) ⟨plain_last (by omega) (by omega) (by omega), hE0⟩
          · exfalso; omega
      · exfalso; omega
  · refine Seg.skip rfl rfl (Seg.skip rfl rfl (Seg.step rfl rfl (Yd.pickF rfl rfl) (Seg.step rfl rfl (Yd.move rfl) (Seg.step rfl rfl (Yd.move rfl) (Seg.step rfl rfl (Yd.leq rfl rfl) (Seg.step rfl rfl (Yd.move rfl) ?_))))))
    refine Seg.gsplitp rfl rfl (fun h84 => ?_) (fun h84 => ?_)
    · refine Seg.step rfl rfl (Yd.move rfl) (Seg.step rfl rfl (Yd.leq rfl rfl) (Seg.step rfl rfl (Yd.pickT rfl rfl) (Seg.step rfl rfl (Yd.pickF rfl rfl) (Seg.step rfl rfl (Yd.move rfl) ?_))))
      refine Seg.gsplitp rfl rfl (fun h91 => ?_) (fun h91 => ?_)
      · refine Seg.skip rfl rfl (Seg.skip rfl rfl (Seg.skip rfl rfl (Seg.skip rfl rfl (Seg.skip rfl rfl (Seg.skip rfl rfl (Seg.step rfl rfl (Yd.pickT rfl rfl) (Seg.step rfl rfl (Yd.move rfl) ?_)))))))
        refine Seg.skip rfl rfl (Seg.skip rfl rfl (Seg.step rfl rfl (Yd.pickT rfl rfl) (Seg.step rfl rfl (Yd.assign rfl) (Seg.nil (At.then_ (Cd.ret ?_))))))
        first | exact At.ret Tryz.results77 (.tmp rfl .nil) ⟨bT (by unfold plainI; omega), hE0⟩ | exact At.ret Tryz.results77 (.tmp rfl .nil) ⟨plain_last (by omega) (by omega) (by omega), hE0⟩
      · refine Seg.step rfl rfl (Yd.move rfl) (Seg.step rfl rfl (Yd.leq rfl rfl) (Seg.step rfl rfl (Yd.move rfl) ?_))
        refine Seg.gsplitp rfl rfl (fun h113 => ?_) (fun h113 => ?_)
        · refine Seg.step rfl rfl (Yd.move rfl) (Seg.step rfl rfl (Yd.leq rfl rfl) (Seg.step rfl rfl (Yd.pickT rfl rfl) (Seg.step rfl rfl (Yd.pickF rfl rfl) (Seg.step rfl rfl (Yd.move rfl) ?_))))
          refine Seg.gsplitp rfl rfl (fun h120 => ?_) (fun h120 => ?_)
          · exfalso; omega
          · refine Seg.step rfl rfl (Yd.move rfl) (Seg.step rfl rfl (Yd.eql rfl rfl) (Seg.step rfl rfl (Yd.pickF rfl rfl) (Seg.step rfl rfl (Yd.assign rfl) (Seg.nil (At.then_ (Cd.ret ?_))))))
            first | exact At.ret Tryz.results77 (.tmp rfl .nil) ⟨bT (by unfold plainI; omega), hE0⟩ | exact At.ret Tryz.results77 (.tmp rfl .nil) ⟨plain_last (by omega) (by omega) (by omega), hE0⟩
        · exfalso; omega
    · refine Seg.skip rfl rfl (Seg.skip rfl rfl (Seg.step rfl rfl (Yd.pickF rfl rfl) (Seg.step rfl rfl (Yd.pickF rfl rfl) (Seg.step rfl rfl (Yd.move rfl) (Seg.step rfl rfl (Yd.move rfl) (Seg.step rfl rfl (Yd.leq rfl rfl) (Seg.step rfl rfl (Yd.move rfl) ?_)))))))
      refine Seg.gsplitp rfl rfl (fun h139 => ?_) (fun h139 => ?_)
      · refine Seg.step rfl rfl (Yd.move rfl) (Seg.step rfl rfl (Yd.leq rfl rfl) (Seg.step rfl rfl (Yd.pickT rfl rfl) (Seg.step rfl rfl (Yd.pickF rfl rfl) (Seg.step rfl rfl (Yd.move rfl) ?_))))
        refine Seg.gsplitp rfl rfl (fun h146 => ?_) (fun h146 => ?_)
        · refine Seg.skip rfl rfl (Seg.skip rfl rfl (Seg.step rfl rfl (Yd.pickT rfl rfl) (Seg.step rfl rfl (Yd.assign rfl) (Seg.nil (At.then_ (Cd.ret ?_))))))
          first | exact At.ret Tryz.results77 (.tmp rfl .nil) ⟨bT (by unfold plainI; omega), hE0⟩ | exact At.ret Tryz.results77 (.tmp rfl .nil) ⟨plain_last (by omega) (by omega) (by omega), hE0⟩
        · refine Seg.step rfl rfl (Yd.move rfl) (Seg.step rfl rfl (Yd.eql rfl rfl) (Seg.step rfl rfl (Yd.pickF rfl rfl) (Seg.step rfl rfl (Yd.assign rfl) (Seg.nil (At.then_ (Cd.ret ?_))))))
          first | exact At.ret Tryz.results77 (.tmp rfl .nil) ⟨bT (by unfold plainI; omega), hE0⟩ | exact At.ret Tryz.results77 (.tmp rfl .nil) ⟨plain_last (by omega) (by omega) (by omega), hE0⟩
      · refine Seg.skip rfl rfl (Seg.skip rfl rfl (Seg.step rfl rfl (Yd.pickF rfl rfl) (Seg.step rfl rfl (Yd.pickF rfl rfl) (Seg.step rfl rfl (Yd.move rfl) (Seg.step rfl rfl (Yd.move rfl) (Seg.step rfl rfl (Yd.eql rfl rfl) (Seg.step rfl rfl (Yd.pickF rfl rfl) ?_)))))))
        refine Seg.step rfl rfl (Yd.assign rfl) (Seg.nil (At.then_ (Cd.ret ?_)))
        first | exact At.ret Tryz.results77 (.tmp rfl .nil) ⟨bT (by unfold plainI; omega), hE0⟩ | exact At.ret Tryz.results77 (.tmp rfl .nil) ⟨plain_last (by omega) (by omega) (by omega), hE0⟩
/-- A host's label. -/
def hostL (l : List UInt8) : Prop := 1 ≤ l.length ∧ l.length ≤ 63 ∧ (l.getD 0 0).toNat ≠ 45 ∧ (l.getD (l.length - 1) 0).toNat ≠ 45 ∧ ∀ b ∈ l, plainI (b.toNat : Int)
instance (l : List UInt8) : Decidable (hostL l) := by unfold hostL; infer_instance
theorem lhost_any (l : List UInt8) (w : World) (hl : l.length ≤ 1000000) : Ret Tryz.prog 61 #[.string ⟨l.toArray⟩] w fun v w' => v = .bool (decide (hostL l)) ∧ Ext w w' := by
  have hE0 := Ext.refl w
  refine Ret.body Tryz.func61 rfl Tryz.ntmps61 rfl ?_
  by_cases hl0 : l = []
  · subst hl0
    refine Cd.seq (Cd.region (Seg.step rfl rfl (Yd.assign rfl) (Seg.nil (At.then_ (Cd.seq (Cd.seq (Cd.region ?_)))))))
    refine Seg.step rfl rfl (Yd.move rfl) (Seg.step rfl rfl (Yd.eqlS rfl rfl) (Seg.step rfl rfl (Yd.move rfl) (Seg.skip rfl rfl (Seg.skip rfl rfl (Seg.skip rfl rfl (Seg.step rfl rfl (Yd.pickT rfl rfl) (Seg.step rfl rfl (Yd.move rfl) ?_)))))))
    refine Seg.skip rfl rfl (Seg.skip rfl rfl (Seg.skip rfl rfl (Seg.step rfl rfl (Yd.pickT rfl rfl) (Seg.step rfl rfl (Yd.move rfl) (Seg.skip rfl rfl (Seg.skip rfl rfl (Seg.skip rfl rfl ?_)))))))
    refine Seg.skip rfl rfl (Seg.skip rfl rfl (Seg.skip rfl rfl (Seg.step rfl rfl (Yd.pickT rfl rfl) (Seg.nil (At.then_ (Cd.condT rfl (Cd.seq ?_)))))))
    refine Cd.region (Seg.step rfl rfl (Yd.assign rfl) (Seg.nil (At.then_ (Cd.ret (At.then_ret ?_)))))
    exact At.ret Tryz.results61 (.tmp rfl .nil) ⟨rfl, hE0⟩
  · have hpos : 1 ≤ l.length := by
      cases l with
      | nil => exact absurd rfl hl0
      | cons => simp
    by_cases hok : l.length ≤ 63 ∧ (l.getD 0 0).toNat ≠ 45 ∧ (l.getD (l.length - 1) 0).toNat ≠ 45
    · obtain ⟨h1, h2, h3⟩ := hok
      refine Cd.seq (Cd.region (Seg.step rfl rfl (Yd.assign rfl) (Seg.nil (At.then_ (Cd.seq (Cd.seq (Cd.region ?_)))))))
      refine Seg.step rfl rfl (Yd.move rfl) (Seg.step rfl rfl (Yd.eqlS rfl rfl) (Seg.step rfl rfl (Yd.move rfl) ?_))
      refine Seg.gsplitp rfl rfl (fun h15 => ?_) (fun h15 => ?_)
      · contradiction
      refine Seg.step rfl rfl (Yd.move rfl) (Seg.step rfl rfl (Yd.lenStr rfl rfl) (Seg.step rfl rfl (Yd.gtr rfl rfl) (Seg.step rfl rfl (Yd.pickF rfl rfl) (Seg.step rfl rfl (Yd.move rfl) ?_))))
      refine Seg.gsplitp rfl rfl (fun h22 => ?_) (fun h22 => ?_)
      · exfalso; omega
      refine Seg.step rfl rfl (Yd.move rfl) (Seg.step rfl rfl (Yd.indexStr rfl rfl rfl (NatOf.cast 0) (by omega)) (Seg.step rfl rfl (Yd.eql rfl rfl) (Seg.step rfl rfl (Yd.pickF rfl rfl) (Seg.step rfl rfl (Yd.move rfl) ?_))))
      refine Seg.gsplitp rfl rfl (fun h29 => ?_) (fun h29 => ?_)
      · exfalso; omega
      refine Seg.step rfl rfl (Yd.move rfl) (Seg.step rfl rfl (Yd.move rfl) (Seg.step rfl rfl (Yd.lenStr rfl rfl) (Seg.step rfl rfl (Yd.subI rfl rfl (by omega)) (Seg.step rfl rfl (Yd.indexStr rfl rfl rfl (NatOf.sub (NatOf.cast _) (NatOf.cast 1) (by omega)) (by omega)) (Seg.step rfl rfl (Yd.eql rfl rfl) (Seg.step rfl rfl (Yd.pickF rfl rfl) (Seg.nil ?_)))))))
      refine At.then_ ?_
      refine Cd.condk rfl (fun h40 => ?_) (fun h40 => ?_)
      · exfalso; omega
      refine Cd.skip (At.then_ (Cd.seq (Cd.seq (Cd.region (Seg.step rfl rfl (Yd.move rfl) (Seg.step rfl rfl (Yd.lenStr rfl rfl) (Seg.step rfl rfl (Yd.move rfl) ?_)))))))
      refine Seg.nil (At.then_ (Cd.block ?_))
      refine Cd.loop (σ := Nat) (fun i => [(0, .string ⟨l.toArray⟩), (25, .int .i64 (l.length : Int)), (26, .int .i64 (i : Int))])
        (fun i w' => i ≤ l.length ∧ (∀ b ∈ l.take i, plainI (b.toNat : Int)) ∧ Ext w w') (fun i => l.length - i) 0 (.cons rfl (.cons rfl (.cons rfl (.nil _)))) ⟨Nat.zero_le _, fun b hb => by simp at hb, hE0⟩ ?_
      clear hE0
      rintro i w1 ⟨hi, hT, hE0⟩
      by_cases hlt : i < l.length
      · have hmem : l.getD i 0 ∈ l := List.mem_of_getElem? (getD_at hlt)
        have hc : IntKind.i32.wrap ((l.getD i 0).toNat : Int) = ((l.getD i 0).toNat : Int) := IntWalk.i32_in _ ⟨by omega, by have := byte_lt (l.getD i 0); omega⟩
        by_cases hp : plainI ((l.getD i 0).toNat : Int)
        · have hd : decide (plainI ((l.getD i 0).toNat : Int)) = true := decide_eq_true hp
          have hT' : ∀ b ∈ l.take (i + 1), plainI (b.toNat : Int) := fun b hb => by
            rw [take_get hlt] at hb
            rcases List.mem_append.1 hb with hb | hb
            · exact hT b hb
            · rw [List.mem_singleton.1 hb]; exact hp
          refine Cd.seq (Cd.region (Seg.step rfl rfl (Yd.lss rfl rfl) (Seg.nil (At.then_ (Cd.seq ?_)))))
          refine Cd.condk rfl (fun h47 => ?_) (fun h47 => ?_)
          · refine Cd.skip (At.then_ (Cd.seq (Cd.block (Cd.seq (Cd.region (Seg.step rfl rfl (Yd.move rfl) (Seg.step rfl rfl (Yd.assign rfl) ?_)))))))
            refine Seg.nil (At.then_ (Cd.seq (Cd.region (Seg.step rfl rfl (Yd.move rfl) (Seg.step rfl rfl (Yd.move rfl) (Seg.step rfl rfl (Yd.indexStr rfl rfl rfl (NatOf.cast _) (by omega)) ?_))))))
            (refine Seg.step rfl rfl (Yd.convN rfl rfl rfl hc) ?_)
            (refine Seg.call rfl rfl (own_of rfl) rfl (lplain_any _ _) ?_; rw [hd]; rintro _ w65 ⟨rfl, hE65⟩)
            replace hE0 := Ext.trans hE0 hE65
            refine Seg.step rfl rfl (Yd.not rfl) (Seg.nil (At.then_ (Cd.condF rfl (Cd.skip (At.blk (At.then_ (Cd.region ?_)))))))
            refine Seg.step rfl rfl (Yd.addI rfl rfl (by omega)) (Seg.step rfl rfl (Yd.move rfl) (Seg.nil ?_))
            exact At.round (i + 1) (.cons rfl (.cons rfl (.cons rfl (.nil _)))) ⟨hlt, hT', hE0⟩ (Nat.sub_lt_sub_left hlt (Nat.lt_succ_self i))
          · exfalso; omega
        · have hd : decide (plainI ((l.getD i 0).toNat : Int)) = false := decide_eq_false hp
          refine Cd.seq (Cd.region (Seg.step rfl rfl (Yd.lss rfl rfl) (Seg.nil (At.then_ (Cd.seq ?_)))))
          refine Cd.condk rfl (fun h47 => ?_) (fun h47 => ?_)
          · refine Cd.skip (At.then_ (Cd.seq (Cd.block (Cd.seq (Cd.region (Seg.step rfl rfl (Yd.move rfl) (Seg.step rfl rfl (Yd.assign rfl) ?_)))))))
            refine Seg.nil (At.then_ (Cd.seq (Cd.region (Seg.step rfl rfl (Yd.move rfl) (Seg.step rfl rfl (Yd.move rfl) (Seg.step rfl rfl (Yd.indexStr rfl rfl rfl (NatOf.cast _) (by omega)) ?_))))))
            (refine Seg.step rfl rfl (Yd.convN rfl rfl rfl hc) ?_)
            (refine Seg.call rfl rfl (own_of rfl) rfl (lplain_any _ _) ?_; rw [hd]; rintro _ w65 ⟨rfl, hE65⟩)
            replace hE0 := Ext.trans hE0 hE65
            refine Seg.step rfl rfl (Yd.not rfl) (Seg.nil (At.then_ (Cd.condT rfl (Cd.seq (Cd.region (Seg.step rfl rfl (Yd.assign rfl) (Seg.nil ?_)))))))
            refine At.then_ (Cd.ret (At.blk_ret (At.then_ret (At.then_ret (At.blk_ret (At.then_ret ?_))))))
            exact At.ret Tryz.results61 (.tmp rfl .nil) ⟨bF (fun hh => hp (hh.2.2.2.2 _ hmem)), hE0⟩
          · exfalso; omega
      · have hil : l.take i = l := List.take_of_length_le (by omega)
        rw [hil] at hT
        refine Cd.seq (Cd.region (Seg.step rfl rfl (Yd.lss rfl rfl) (Seg.nil (At.then_ (Cd.seq ?_)))))
        refine Cd.condk rfl (fun h47 => ?_) (fun h47 => ?_)
        · exfalso; omega
        · refine Cd.exit (At.then_exit (At.then_exit (At.blk_same (At.then_ (Cd.seq (Cd.region (Seg.step rfl rfl (Yd.assign rfl) ?_)))))))
          refine Seg.nil (At.then_ (Cd.ret ?_))
          exact At.ret Tryz.results61 (.tmp rfl .nil) ⟨bT ⟨hpos, h1, h2, h3, hT⟩, hE0⟩
    · refine Cd.seq (Cd.region (Seg.step rfl rfl (Yd.assign rfl) (Seg.nil (At.then_ (Cd.seq (Cd.seq (Cd.region ?_)))))))
      refine Seg.step rfl rfl (Yd.move rfl) (Seg.step rfl rfl (Yd.eqlS rfl rfl) (Seg.step rfl rfl (Yd.move rfl) ?_))
      refine Seg.gsplitp rfl rfl (fun h12 => ?_) (fun h12 => ?_)
      · contradiction
      · refine Seg.step rfl rfl (Yd.move rfl) (Seg.step rfl rfl (Yd.lenStr rfl rfl) (Seg.step rfl rfl (Yd.gtr rfl rfl) (Seg.step rfl rfl (Yd.pickF rfl rfl) (Seg.step rfl rfl (Yd.move rfl) ?_))))
        refine Seg.gsplitp rfl rfl (fun h19 => ?_) (fun h19 => ?_)
        · refine Seg.skip rfl rfl (Seg.skip rfl rfl (Seg.skip rfl rfl (Seg.step rfl rfl (Yd.pickT rfl rfl) (Seg.step rfl rfl (Yd.move rfl) (Seg.skip rfl rfl (Seg.skip rfl rfl (Seg.skip rfl rfl ?_)))))))
          refine Seg.skip rfl rfl (Seg.skip rfl rfl (Seg.skip rfl rfl (Seg.step rfl rfl (Yd.pickT rfl rfl) (Seg.nil (At.then_ (Cd.condT rfl (Cd.seq ?_)))))))
          refine Cd.region (Seg.step rfl rfl (Yd.assign rfl) (Seg.nil (At.then_ (Cd.ret (At.then_ret ?_)))))
          exact At.ret Tryz.results61 (.tmp rfl .nil) ⟨bF (fun hh => hok ⟨hh.2.1, hh.2.2.1, hh.2.2.2.1⟩), hE0⟩
        · refine Seg.step rfl rfl (Yd.move rfl) (Seg.step rfl rfl (Yd.indexStr rfl rfl rfl (NatOf.cast 0) (by omega)) (Seg.step rfl rfl (Yd.eql rfl rfl) (Seg.step rfl rfl (Yd.pickF rfl rfl) (Seg.step rfl rfl (Yd.move rfl) ?_))))
          refine Seg.gsplitp rfl rfl (fun h50 => ?_) (fun h50 => ?_)
          · refine Seg.skip rfl rfl (Seg.skip rfl rfl (Seg.skip rfl rfl (Seg.skip rfl rfl (Seg.skip rfl rfl (Seg.skip rfl rfl (Seg.step rfl rfl (Yd.pickT rfl rfl) (Seg.nil ?_)))))))
            refine At.then_ (Cd.condT rfl (Cd.seq (Cd.region (Seg.step rfl rfl (Yd.assign rfl) (Seg.nil (At.then_ (Cd.ret ?_)))))))
            refine At.then_ret ?_
            exact At.ret Tryz.results61 (.tmp rfl .nil) ⟨bF (fun hh => hok ⟨hh.2.1, hh.2.2.1, hh.2.2.2.1⟩), hE0⟩
          · refine Seg.step rfl rfl (Yd.move rfl) (Seg.step rfl rfl (Yd.move rfl) (Seg.step rfl rfl (Yd.lenStr rfl rfl) (Seg.step rfl rfl (Yd.subI rfl rfl (by omega)) (Seg.step rfl rfl (Yd.indexStr rfl rfl rfl (NatOf.sub (NatOf.cast _) (NatOf.cast 1) (by omega)) (by omega)) (Seg.step rfl rfl (Yd.eql rfl rfl) (Seg.step rfl rfl (Yd.pickF rfl rfl) (Seg.nil ?_)))))))
            refine At.then_ ?_
            refine Cd.condk rfl (fun h80 => ?_) (fun h80 => ?_)
            · refine Cd.seq (Cd.region (Seg.step rfl rfl (Yd.assign rfl) (Seg.nil (At.then_ (Cd.ret (At.then_ret ?_))))))
              exact At.ret Tryz.results61 (.tmp rfl .nil) ⟨bF (fun hh => hok ⟨hh.2.1, hh.2.2.1, hh.2.2.2.1⟩), hE0⟩
            · exfalso; omega
/-- All bytes below 128. -/
def asciiL (l : List UInt8) : Prop := ∀ b ∈ l, b.toNat < 128
instance (l : List UInt8) : Decidable (asciiL l) := by unfold asciiL; infer_instance
theorem lbasic_any (l : List UInt8) (w : World) (hl : l.length ≤ 1000000) : Ret Tryz.prog 60 #[.string ⟨l.toArray⟩] w fun v w' => v = .bool (decide (asciiL l)) ∧ Ext w w' := by
  have hE0 := Ext.refl w
  refine Ret.body Tryz.func60 rfl Tryz.ntmps60 rfl (Cd.seq (Cd.region (Seg.step rfl rfl (Yd.assign rfl) (Seg.nil (At.then_ (Cd.seq (Cd.seq ?_)))))))
  refine Cd.region (Seg.step rfl rfl (Yd.move rfl) (Seg.step rfl rfl (Yd.lenStr rfl rfl) (Seg.step rfl rfl (Yd.move rfl) (Seg.nil (At.then_ (Cd.block ?_))))))
  refine Cd.loop (σ := Nat) (fun i => [(0, .string ⟨l.toArray⟩), (5, .int .i64 (l.length : Int)), (6, .int .i64 (i : Int))])
    (fun i w' => i ≤ l.length ∧ (∀ b ∈ l.take i, b.toNat < 128) ∧ Ext w w') (fun i => l.length - i) 0 (.cons rfl (.cons rfl (.cons rfl (.nil _)))) ⟨Nat.zero_le _, fun b hb => by simp at hb, hE0⟩ ?_
  clear hE0
  rintro i w1 ⟨hi, hT, hE0⟩
  by_cases hlt : i < l.length
  · have hmem : l.getD i 0 ∈ l := List.mem_of_getElem? (getD_at hlt)
    by_cases hp : (l.getD i 0).toNat < 128
    · have hT' : ∀ b ∈ l.take (i + 1), b.toNat < 128 := fun b hb => by
        rw [take_get hlt] at hb
        rcases List.mem_append.1 hb with hb | hb
        · exact hT b hb
        · rw [List.mem_singleton.1 hb]; exact hp
      refine Cd.seq (Cd.region (Seg.step rfl rfl (Yd.lss rfl rfl) (Seg.nil (At.then_ (Cd.seq ?_)))))
      refine Cd.condk rfl (fun h8 => ?_) (fun h8 => ?_)
      · refine Cd.skip (At.then_ (Cd.seq (Cd.block (Cd.seq (Cd.region (Seg.step rfl rfl (Yd.move rfl) (Seg.step rfl rfl (Yd.assign rfl) ?_)))))))
        refine Seg.nil (At.then_ (Cd.seq (Cd.region (Seg.step rfl rfl (Yd.move rfl) (Seg.step rfl rfl (Yd.move rfl) (Seg.step rfl rfl (Yd.indexStr rfl rfl rfl (NatOf.cast _) (by omega)) (Seg.step rfl rfl (Yd.geq rfl rfl) ?_)))))))
        refine Seg.nil (At.then_ ?_)
        refine Cd.condk rfl (fun h28 => ?_) (fun h28 => ?_)
        · exfalso; omega
        · refine Cd.skip (At.blk (At.then_ (Cd.region (Seg.step rfl rfl (Yd.addI rfl rfl (by omega)) (Seg.step rfl rfl (Yd.move rfl) (Seg.nil ?_))))))
          exact At.round (i + 1) (.cons rfl (.cons rfl (.cons rfl (.nil _)))) ⟨hlt, hT', hE0⟩ (Nat.sub_lt_sub_left hlt (Nat.lt_succ_self i))
      · exfalso; omega
    · refine Cd.seq (Cd.region (Seg.step rfl rfl (Yd.lss rfl rfl) (Seg.nil (At.then_ (Cd.seq ?_)))))
      refine Cd.condk rfl (fun h8 => ?_) (fun h8 => ?_)
      · refine Cd.skip (At.then_ (Cd.seq (Cd.block (Cd.seq (Cd.region (Seg.step rfl rfl (Yd.move rfl) (Seg.step rfl rfl (Yd.assign rfl) ?_)))))))
        refine Seg.nil (At.then_ (Cd.seq (Cd.region (Seg.step rfl rfl (Yd.move rfl) (Seg.step rfl rfl (Yd.move rfl) (Seg.step rfl rfl (Yd.indexStr rfl rfl rfl (NatOf.cast _) (by omega)) (Seg.step rfl rfl (Yd.geq rfl rfl) ?_)))))))
        refine Seg.nil (At.then_ ?_)
        refine Cd.condk rfl (fun h28 => ?_) (fun h28 => ?_)
        · refine Cd.seq (Cd.region (Seg.step rfl rfl (Yd.assign rfl) (Seg.nil (At.then_ (Cd.ret (At.blk_ret (At.then_ret ?_)))))))
          refine At.then_ret (At.blk_ret (At.then_ret ?_))
          exact At.ret Tryz.results60 (.tmp rfl .nil) ⟨bF (fun hh => hp (hh _ hmem)), hE0⟩
        · exfalso; omega
      · exfalso; omega
  · have hil : l.take i = l := List.take_of_length_le (by omega)
    rw [hil] at hT
    refine Cd.seq (Cd.region (Seg.step rfl rfl (Yd.lss rfl rfl) (Seg.nil (At.then_ (Cd.seq ?_)))))
    refine Cd.condk rfl (fun h8 => ?_) (fun h8 => ?_)
    · exfalso; omega
    · refine Cd.exit (At.then_exit (At.then_exit (At.blk_same (At.then_ (Cd.seq (Cd.region (Seg.step rfl rfl (Yd.assign rfl) ?_)))))))
      refine Seg.nil (At.then_ (Cd.ret ?_))
      exact At.ret Tryz.results60 (.tmp rfl .nil) ⟨bT hT, hE0⟩
/-- How many octets a name has. -/
def szN (n : List (List UInt8)) : Nat := 1 + (n.map fun l => l.length + 1).sum
theorem szN_take {n : List (List UInt8)} {i : Nat} {l : List UInt8} (h : n[i]? = some l) : szN (n.take (i + 1)) = szN (n.take i) + (l.length + 1) := by
  unfold szN
  rw [List.take_add_one, h, List.map_append, List.sum_append]
  simp
  omega
theorem szN_le (n : List (List UInt8)) (i : Nat) : szN (n.take i) ≤ szN n := by
  conv => rhs; rw [← List.take_append_drop i n]
  unfold szN
  rw [List.map_append, List.sum_append]
  omega
theorem szN_len (n : List (List UInt8)) : n.length ≤ szN n := by
  unfold szN
  induction n with
  | nil => simp
  | cons l n ih => simp at ih ⊢; omega
theorem szN_mem {n : List (List UInt8)} {l : List UInt8} (h : l ∈ n) : l.length ≤ szN n := by
  unfold szN
  induction n with
  | nil => cases h
  | cons m n ih =>
    rcases List.mem_cons.1 h with rfl | h
    · simp; omega
    · have := ih h; simp at this ⊢; omega
def labN (n : List (List UInt8)) : Prop := ∀ l ∈ n, 1 ≤ l.length ∧ l.length ≤ 63
instance (n : List (List UInt8)) : Decidable (labN n) := by unfold labN; infer_instance
/-- What is wrong with a name. -/
def chkN (n : List (List UInt8)) : Int := if labN n then (if szN n ≤ 255 then 0 else 3) else 7
theorem lab_take {n : List (List UInt8)} {i : Nat} {l : List UInt8} (h : n[i]? = some l) (hT : ∀ l ∈ n.take i, 1 ≤ l.length ∧ l.length ≤ 63) (hl : 1 ≤ l.length ∧ l.length ≤ 63) : ∀ l ∈ n.take (i + 1), 1 ≤ l.length ∧ l.length ≤ 63 := fun m hm => by
  rw [List.take_add_one, h] at hm
  rcases List.mem_append.1 hm with hm | hm
  · exact hT m hm
  · rw [List.mem_singleton.1 hm]; exact hl
theorem dsize_any (n : List (List UInt8)) (v0 : Value) (w : World) (h0 : NameAt w v0 n) (hz : szN n ≤ 4611686018427387904) : Ret Tryz.prog 39 #[v0] w fun v w' => v = .int .i64 (szN n : Nat) ∧ Ext w w' := by
  have hE0 := Ext.refl w
  obtain ⟨ao, c, rfl, hl0, hr0, hz0⟩ := h0
  have hnl := szN_len n
  refine Ret.body Tryz.func39 rfl Tryz.ntmps39 rfl (Cd.seq (Cd.region (Seg.step rfl rfl (Yd.assign rfl) (Seg.nil (At.then_ (Cd.seq (Cd.region ?_)))))))
  refine Seg.step rfl rfl (Yd.assign rfl) (Seg.nil (At.then_ (Cd.seq (Cd.seq (Cd.region (Seg.step rfl rfl (Yd.move rfl) (Seg.step rfl rfl (Yd.lenS rfl rfl) ?_)))))))
  refine Seg.step rfl rfl (Yd.move rfl) (Seg.nil (At.then_ (Cd.block ?_)))
  refine Cd.loop (σ := Nat) (fun i => [(3, .int .i64 (szN (n.take i) : Nat)), (6, .slice ao n.length c), (7, .int .i64 (n.length : Int)), (8, .int .i64 (i : Int))])
    (fun i w' => i ≤ n.length ∧ Ext w w') (fun i => n.length - i) 0 (.cons rfl (.cons rfl (.cons rfl (.cons rfl (.nil _))))) ⟨Nat.zero_le _, hE0⟩ ?_
  clear hE0
  rintro i w1 ⟨hi, hE0⟩
  by_cases hlt : i < n.length
  · obtain ⟨a, rfl⟩ : ∃ a, ao = some a := by
      cases ao with
      | none => have := hz0 rfl; omega
      | some a => exact ⟨a, rfl⟩
    have hr0 := hr0 a rfl
    obtain ⟨l, hl⟩ : ∃ l, n[i]? = some l := ⟨_, List.getElem?_eq_getElem hlt⟩
    have hst := szN_take hl
    have hle := szN_le n (i + 1)
    refine Cd.seq (Cd.region (Seg.step rfl rfl (Yd.lss rfl rfl) (Seg.nil (At.then_ (Cd.seq ?_)))))
    refine Cd.condk rfl (fun h8 => ?_) (fun h8 => ?_)
    · refine Cd.skip (At.then_ (Cd.seq (Cd.block (Cd.seq (Cd.region (Seg.step rfl rfl (Yd.indexAddr1 rfl rfl rfl (NatOf.cast _) (by omega)) (Seg.step rfl rfl (Yd.load1 rfl rfl ((hr0.ext hE0) _ _ (strV_at hl))) ?_)))))))
      refine Seg.step rfl rfl (Yd.assign rfl) (Seg.nil (At.then_ (Cd.region (Seg.step rfl rfl (Yd.move rfl) (Seg.step rfl rfl (Yd.move rfl) (Seg.step rfl rfl (Yd.lenStr rfl rfl) (Seg.step rfl rfl (Yd.addI rfl rfl (by omega)) ?_)))))))
      refine Seg.step rfl rfl (Yd.addI rfl rfl (by omega)) (Seg.step rfl rfl (Yd.assign rfl) (Seg.nil (At.blk (At.then_ (Cd.region (Seg.step rfl rfl (Yd.addI rfl rfl (by omega)) (Seg.step rfl rfl (Yd.move rfl) ?_)))))))
      refine Seg.nil ?_
      exact At.round (i + 1) (by rw [hst]; exact (.cons rfl (.cons rfl (.cons rfl (.cons rfl (.nil _)))))) ⟨hlt, hE0⟩ (Nat.sub_lt_sub_left hlt (Nat.lt_succ_self i))
    · exfalso; omega
  · have hil : n.take i = n := List.take_of_length_le (by omega)
    rw [hil]
    refine Cd.seq (Cd.region (Seg.step rfl rfl (Yd.lss rfl rfl) (Seg.nil (At.then_ (Cd.seq ?_)))))
    refine Cd.condk rfl (fun h8 => ?_) (fun h8 => ?_)
    · exfalso; omega
    · refine Cd.exit (At.then_exit (At.then_exit (At.blk_same (At.then_ (Cd.seq (Cd.region (Seg.step rfl rfl (Yd.move rfl) ?_)))))))
      refine Seg.step rfl rfl (Yd.assign rfl) (Seg.nil (At.then_ (Cd.ret ?_)))
      exact At.ret Tryz.results39 (.tmp rfl .nil) ⟨rfl, hE0⟩
theorem dcheck_any (n : List (List UInt8)) (v0 : Value) (w : World) (h0 : NameAt w v0 n) (hz : szN n ≤ 4611686018427387904) : Ret Tryz.prog 42 #[v0] w fun v w' => v = .int .i64 (chkN n) ∧ Ext w w' := by
  have hE0 := Ext.refl w
  have hS := h0
  obtain ⟨ao, c, rfl, hl0, hr0, hz0⟩ := h0
  have kS : Keep (NameAt w (.slice ao n.length c) n) := hS
  have hnl := szN_len n
  clear hS
  refine Ret.body Tryz.func42 rfl Tryz.ntmps42 rfl (Cd.seq (Cd.region (Seg.step rfl rfl (Yd.assign rfl) (Seg.nil (At.then_ (Cd.seq (Cd.seq ?_)))))))
  refine Cd.region (Seg.step rfl rfl (Yd.move rfl) (Seg.step rfl rfl (Yd.lenS rfl rfl) (Seg.step rfl rfl (Yd.move rfl) (Seg.nil (At.then_ (Cd.block ?_))))))
  refine Cd.loop (σ := Nat) (fun i => [(0, .slice ao n.length c), (5, .slice ao n.length c), (6, .int .i64 (n.length : Int)), (7, .int .i64 (i : Int))])
    (fun i w' => i ≤ n.length ∧ (∀ l ∈ n.take i, 1 ≤ l.length ∧ l.length ≤ 63) ∧ Ext w w') (fun i => n.length - i) 0 (.cons rfl (.cons rfl (.cons rfl (.cons rfl (.nil _))))) ⟨Nat.zero_le _, fun b hb => by simp at hb, hE0⟩ ?_
  clear hE0
  rintro i w1 ⟨hi, hT, hE0⟩
  by_cases hlt : i < n.length
  · obtain ⟨a, rfl⟩ : ∃ a, ao = some a := by
      cases ao with
      | none => have := hz0 rfl; omega
      | some a => exact ⟨a, rfl⟩
    have hr0 := hr0 a rfl
    obtain ⟨l, hl⟩ : ∃ l, n[i]? = some l := ⟨_, List.getElem?_eq_getElem hlt⟩
    have hmem := List.mem_of_getElem? hl
    by_cases hok : 1 ≤ l.length ∧ l.length ≤ 63
    · have hT' := lab_take hl hT hok
      have hne : ¬ l = [] := fun e => by subst e; simp at hok
      refine Cd.seq (Cd.region (Seg.step rfl rfl (Yd.lss rfl rfl) (Seg.nil (At.then_ (Cd.seq ?_)))))
      refine Cd.condk rfl (fun h8 => ?_) (fun h8 => ?_)
      · refine Cd.skip (At.then_ (Cd.seq (Cd.block (Cd.seq (Cd.region (Seg.step rfl rfl (Yd.indexAddr1 rfl rfl rfl (NatOf.cast _) (by omega)) (Seg.step rfl rfl (Yd.load1 rfl rfl ((hr0.ext hE0) _ _ (strV_at hl))) ?_)))))))
        refine Seg.step rfl rfl (Yd.assign rfl) (Seg.nil (At.then_ (Cd.seq (Cd.region (Seg.step rfl rfl (Yd.move rfl) (Seg.step rfl rfl (Yd.eqlS rfl rfl) (Seg.step rfl rfl (Yd.move rfl) ?_)))))))
        refine Seg.gsplitp rfl rfl (fun h26 => ?_) (fun h26 => ?_)
        · contradiction
        · refine Seg.step rfl rfl (Yd.move rfl) (Seg.step rfl rfl (Yd.lenStr rfl rfl) (Seg.step rfl rfl (Yd.gtr rfl rfl) (Seg.step rfl rfl (Yd.pickF rfl rfl) (Seg.nil (At.then_ ?_)))))
          refine Cd.condk rfl (fun h34 => ?_) (fun h34 => ?_)
          · exfalso; omega
          · refine Cd.skip (At.blk (At.then_ (Cd.region (Seg.step rfl rfl (Yd.addI rfl rfl (by omega)) (Seg.step rfl rfl (Yd.move rfl) (Seg.nil ?_))))))
            exact At.round (i + 1) (.cons rfl (.cons rfl (.cons rfl (.cons rfl (.nil _))))) ⟨hlt, hT', hE0⟩ (Nat.sub_lt_sub_left hlt (Nat.lt_succ_self i))
      · exfalso; omega
    · have hbad : chkN n = 7 := if_neg fun h => hok (h l hmem)
      by_cases hne : l = []
      · refine Cd.seq (Cd.region (Seg.step rfl rfl (Yd.lss rfl rfl) (Seg.nil (At.then_ (Cd.seq ?_)))))
        refine Cd.condk rfl (fun h8 => ?_) (fun h8 => ?_)
        · refine Cd.skip (At.then_ (Cd.seq (Cd.block (Cd.seq (Cd.region (Seg.step rfl rfl (Yd.indexAddr1 rfl rfl rfl (NatOf.cast _) (by omega)) (Seg.step rfl rfl (Yd.load1 rfl rfl ((hr0.ext hE0) _ _ (strV_at hl))) ?_)))))))
          refine Seg.step rfl rfl (Yd.assign rfl) (Seg.nil (At.then_ (Cd.seq (Cd.region (Seg.step rfl rfl (Yd.move rfl) (Seg.step rfl rfl (Yd.eqlS rfl rfl) (Seg.step rfl rfl (Yd.move rfl) ?_)))))))
          refine Seg.gsplitp rfl rfl (fun h26 => ?_) (fun h26 => ?_)
          · refine Seg.skip rfl rfl (Seg.skip rfl rfl (Seg.skip rfl rfl (Seg.step rfl rfl (Yd.pickT rfl rfl) (Seg.nil (At.then_ (Cd.condT rfl (Cd.seq ?_)))))))
            refine Cd.region (Seg.step rfl rfl (Yd.assign rfl) (Seg.nil (At.then_ (Cd.ret (At.blk_ret (At.then_ret (At.then_ret ?_)))))))
            refine At.blk_ret (At.then_ret ?_)
            exact At.ret Tryz.results42 (.tmp rfl .nil) ⟨by rw [hbad]; rfl, hE0⟩
          · contradiction
        · exfalso; omega
      · have : 1 ≤ l.length := by
          cases l with
          | nil => exact absurd rfl hne
          | cons => simp
        refine Cd.seq (Cd.region (Seg.step rfl rfl (Yd.lss rfl rfl) (Seg.nil (At.then_ (Cd.seq ?_)))))
        refine Cd.condk rfl (fun h8 => ?_) (fun h8 => ?_)
        · refine Cd.skip (At.then_ (Cd.seq (Cd.block (Cd.seq (Cd.region (Seg.step rfl rfl (Yd.indexAddr1 rfl rfl rfl (NatOf.cast _) (by omega)) (Seg.step rfl rfl (Yd.load1 rfl rfl ((hr0.ext hE0) _ _ (strV_at hl))) ?_)))))))
          refine Seg.step rfl rfl (Yd.assign rfl) (Seg.nil (At.then_ (Cd.seq (Cd.region (Seg.step rfl rfl (Yd.move rfl) (Seg.step rfl rfl (Yd.eqlS rfl rfl) (Seg.step rfl rfl (Yd.move rfl) ?_)))))))
          refine Seg.gsplitp rfl rfl (fun h26 => ?_) (fun h26 => ?_)
          · contradiction
          · refine Seg.step rfl rfl (Yd.move rfl) (Seg.step rfl rfl (Yd.lenStr rfl rfl) (Seg.step rfl rfl (Yd.gtr rfl rfl) (Seg.step rfl rfl (Yd.pickF rfl rfl) (Seg.nil (At.then_ ?_)))))
            refine Cd.condk rfl (fun h34 => ?_) (fun h34 => ?_)
            · refine Cd.seq (Cd.region (Seg.step rfl rfl (Yd.assign rfl) (Seg.nil (At.then_ (Cd.ret (At.blk_ret (At.then_ret ?_)))))))
              refine At.then_ret (At.blk_ret (At.then_ret ?_))
              exact At.ret Tryz.results42 (.tmp rfl .nil) ⟨by rw [hbad]; rfl, hE0⟩
            · exfalso; omega
        · exfalso; omega
  · have hil : n.take i = n := List.take_of_length_le (by omega)
    rw [hil] at hT
    have hlab : labN n := hT
    by_cases hs : szN n ≤ 255
    · have hres : chkN n = 0 := by unfold chkN; rw [if_pos hlab, if_pos hs]
      refine Cd.seq (Cd.region (Seg.step rfl rfl (Yd.lss rfl rfl) (Seg.nil (At.then_ (Cd.seq ?_)))))
      refine Cd.condk rfl (fun h8 => ?_) (fun h8 => ?_)
      · exfalso; omega
      · refine Cd.exit (At.then_exit (At.then_exit (At.blk_same (At.then_ (Cd.seq (Cd.seq (Cd.region ?_)))))))
        refine Seg.step rfl rfl (Yd.move rfl) ?_
        (refine Seg.call rfl rfl (own_of rfl) rfl (dsize_any n _ _ (Sl.ext kS hE0) hz) ?_; rintro _ w19 ⟨rfl, hE19⟩)
        replace hE0 := Ext.trans hE0 hE19
        refine Seg.step rfl rfl (Yd.gtr rfl rfl) (Seg.nil (At.then_ ?_))
        refine Cd.condk rfl (fun h23 => ?_) (fun h23 => ?_)
        · exfalso; omega
        · refine Cd.skip (At.then_ (Cd.seq (Cd.region (Seg.step rfl rfl (Yd.assign rfl) (Seg.nil (At.then_ (Cd.ret ?_)))))))
          exact At.ret Tryz.results42 (.tmp rfl .nil) ⟨by rw [hres]; rfl, hE0⟩
    · have hres : chkN n = 3 := by unfold chkN; rw [if_pos hlab, if_neg hs]
      refine Cd.seq (Cd.region (Seg.step rfl rfl (Yd.lss rfl rfl) (Seg.nil (At.then_ (Cd.seq ?_)))))
      refine Cd.condk rfl (fun h8 => ?_) (fun h8 => ?_)
      · exfalso; omega
      · refine Cd.exit (At.then_exit (At.then_exit (At.blk_same (At.then_ (Cd.seq (Cd.seq (Cd.region ?_)))))))
        refine Seg.step rfl rfl (Yd.move rfl) ?_
        (refine Seg.call rfl rfl (own_of rfl) rfl (dsize_any n _ _ (Sl.ext kS hE0) hz) ?_; rintro _ w19 ⟨rfl, hE19⟩)
        replace hE0 := Ext.trans hE0 hE19
        refine Seg.step rfl rfl (Yd.gtr rfl rfl) (Seg.nil (At.then_ ?_))
        refine Cd.condk rfl (fun h23 => ?_) (fun h23 => ?_)
        · refine Cd.seq (Cd.region (Seg.step rfl rfl (Yd.assign rfl) (Seg.nil (At.then_ (Cd.ret (At.then_ret ?_))))))
          exact At.ret Tryz.results42 (.tmp rfl .nil) ⟨by rw [hres]; rfl, hE0⟩
        · exfalso; omega
end Go.Proofs.YtahpiaaffeiadaaGreat
