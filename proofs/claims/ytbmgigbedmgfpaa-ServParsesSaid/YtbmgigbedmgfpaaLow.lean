/- Small letters. -/
import Derived.Test.YtbmgigbedmgfpaaWkl
import Derived.Test.YtbmgigbedmgfpaaSam
namespace Go.Proofs.Ytbmgigbedmgfpaa
open Go Go.RowKit
def lowB (b : UInt8) : UInt8 := if 65 ≤ b.toNat ∧ b.toNat ≤ 90 then b + 32 else b
def lowS (l : List UInt8) : List UInt8 := l.map lowB
theorem lowB_nat (b : UInt8) : (lowB b).toNat = if 65 ≤ b.toNat ∧ b.toNat ≤ 90 then b.toNat + 32 else b.toNat := by
  unfold lowB
  split
  · rename_i h
    rw [UInt8.toNat_add]
    have : (32 : UInt8).toNat = 32 := rfl
    omega
  · rfl
theorem u8_id {i : Int} (h : 0 ≤ i) (h' : i < 256) : IntKind.u8.wrap i = i := IntWalk.u8_in i ⟨h, by omega⟩
theorem byte_lt (b : UInt8) : b.toNat < 256 := b.toNat_lt
theorem low_in {b : UInt8} (h : (65 : Int) ≤ b.toNat) (h' : (b.toNat : Int) ≤ 90) : Value.int .u8 (IntKind.u8.wrap ((b.toNat : Int) + 32)) = .int .u8 (lowB b).toNat := by
  rw [lowB_nat, if_pos (by omega), u8_id (by omega) (by omega)]
  rfl
theorem low_out {b : UInt8} (h : ¬ ((65 : Int) ≤ b.toNat ∧ (b.toNat : Int) ≤ 90)) : Value.int .u8 (b.toNat : Int) = .int .u8 (lowB b).toNat := by
  rw [lowB_nat, if_neg (by omega)]
theorem small_any (b : UInt8) (w : World) : Ret Try.prog 43 #[.int .u8 b.toNat] w fun v w' => v = .int .u8 (lowB b).toNat ∧ Ext w w' := by
  have hE0 := Ext.refl w
  refine Ret.body Try.func43 rfl Try.ntmps43 rfl ?_
  refine Cd.seq ?_
  refine Cd.region ?_
  refine Seg.step rfl rfl (Yd.assign rfl) ?_
  refine Seg.nil ?_
  refine At.then_ ?_
  refine Cd.seq ?_
  refine Cd.seq ?_
  refine Cd.region ?_
  refine Seg.step rfl rfl (Yd.move rfl) ?_
  refine Seg.step rfl rfl (Yd.leq rfl rfl) ?_
  refine Seg.step rfl rfl (Yd.move rfl) ?_
  refine Seg.gsplitp rfl rfl (fun h12 => ?_) (fun h12 => ?_)
  · refine Seg.step rfl rfl (Yd.move rfl) ?_
    refine Seg.step rfl rfl (Yd.leq rfl rfl) ?_
    refine Seg.step rfl rfl (Yd.pickT rfl rfl) ?_
    refine Seg.nil ?_
    refine At.then_ ?_
    refine Cd.condk rfl (fun h19 => ?_) (fun h19 => ?_)
    · refine Cd.seq ?_
      refine Cd.region ?_
      refine Seg.step rfl rfl (Yd.move rfl) ?_
      refine Seg.step rfl rfl (Yd.add rfl rfl) ?_
      refine Seg.step rfl rfl (Yd.assign rfl) ?_
      refine Seg.nil ?_
      refine At.then_ ?_
      refine Cd.ret ?_
      refine At.then_ret ?_
      first | exact At.ret Try.results43 (.tmp rfl .nil) ⟨low_in (by omega) (by omega), hE0⟩ | exact At.ret Try.results43 (.tmp rfl .nil) ⟨low_out (by omega), hE0⟩
    · refine Cd.skip ?_
      refine At.then_ ?_
      refine Cd.seq ?_
      refine Cd.region ?_
      refine Seg.step rfl rfl (Yd.move rfl) ?_
      refine Seg.step rfl rfl (Yd.assign rfl) ?_
      refine Seg.nil ?_
      refine At.then_ ?_
      refine Cd.ret ?_
      first | exact At.ret Try.results43 (.tmp rfl .nil) ⟨low_in (by omega) (by omega), hE0⟩ | exact At.ret Try.results43 (.tmp rfl .nil) ⟨low_out (by omega), hE0⟩
  · refine Seg.skip rfl rfl ?_
    refine Seg.skip rfl rfl ?_
    refine Seg.step rfl rfl (Yd.pickF rfl rfl) ?_
    refine Seg.nil ?_
    refine At.then_ ?_
    refine Cd.condF rfl ?_
    refine Cd.skip ?_
    refine At.then_ ?_
    refine Cd.seq ?_
    refine Cd.region ?_
    refine Seg.step rfl rfl (Yd.move rfl) ?_
    refine Seg.step rfl rfl (Yd.assign rfl) ?_
    refine Seg.nil ?_
    refine At.then_ ?_
    refine Cd.ret ?_
    first | exact At.ret Try.results43 (.tmp rfl .nil) ⟨low_in (by omega) (by omega), hE0⟩ | exact At.ret Try.results43 (.tmp rfl .nil) ⟨low_out (by omega), hE0⟩
theorem lowS_length (l : List UInt8) : (lowS l).length = l.length := by simp [lowS]
theorem take_get {l : List UInt8} {i : Nat} (h : i < l.length) : l.take (i + 1) = l.take i ++ [l.getD i 0] := by
  rw [List.take_add_one, List.getElem?_eq_getElem h]
  simp [List.getD, h]
theorem low_take {l : List UInt8} {i : Nat} (h : i < l.length) : lowS (l.take (i + 1)) = lowS (l.take i) ++ [lowB (l.getD i 0)] := by
  rw [take_get h, lowS, List.map_append]; rfl
theorem bytesV_app (a b : List UInt8) : bytesV (a ++ b) = bytesV a ++ bytesV b := by simp [bytesV]
theorem bytesV_len (a : List UInt8) : (bytesV a).length = a.length := by simp [bytesV]
theorem bytesV_cons (b : UInt8) (a : List UInt8) : bytesV (b :: a) = .int .u8 b.toNat :: bytesV a := rfl
/-- Letter i of those of which the first i are small. -/
theorem low_get {l : List UInt8} {zs : List Value} {i : Nat} (h : i < l.length) : (bytesV (lowS (l.take i) ++ l.drop i) ++ zs)[i]? = some (.int .u8 (l.getD i 0).toNat) := by
  have hl : (bytesV (lowS (l.take i))).length = i := by rw [bytesV_len, lowS_length, List.length_take]; omega
  rw [bytesV_app, List.append_assoc, List.getElem?_append_right (by omega), hl, Nat.sub_self, drop_at h, bytesV_cons]
  rfl
theorem low_set {l : List UInt8} {zs : List Value} {i : Nat} (h : i < l.length) : (bytesV (lowS (l.take i) ++ l.drop i) ++ zs).set i (.int .u8 (lowB (l.getD i 0)).toNat) = bytesV (lowS (l.take (i + 1)) ++ l.drop (i + 1)) ++ zs := by
  have hl : (bytesV (lowS (l.take i))).length = i := by rw [bytesV_len, lowS_length, List.length_take]; omega
  rw [bytesV_app, List.append_assoc, List.set_append_right _ _ (by omega), hl, Nat.sub_self, drop_at h, low_take h, bytesV_cons, bytesV_app, bytesV_app, List.append_assoc, List.append_assoc]
  rfl
theorem lower_any (l : List UInt8) (w : World) (hl : l.length ≤ 1000000) : Ret Try.prog 36 #[.string ⟨l.toArray⟩] w fun v w' => v = .string ⟨(lowS l).toArray⟩ ∧ Ext w w' := by
  have hE0 := Ext.refl w
  refine Ret.body Try.func36 rfl Try.ntmps36 rfl ?_
  refine Cd.seq ?_
  refine Cd.region ?_
  refine Seg.step rfl rfl (Yd.assign rfl) ?_
  refine Seg.nil ?_
  refine At.then_ ?_
  refine Cd.seq ?_
  refine Cd.region ?_
  refine Seg.step rfl rfl (Yd.assign rfl) ?_
  refine Seg.nil ?_
  refine At.then_ ?_
  refine Cd.seq ?_
  refine Cd.block ?_
  refine Cd.loop (σ := Nat) (fun i => [(0, .string ⟨l.toArray⟩), (3, .int .i64 (i : Int))])
    (fun i w' => i ≤ l.length ∧ lowS (l.take i) = l.take i ∧ Ext w w') (fun i => l.length - i) 0 (.cons rfl (.cons rfl (.nil _))) ⟨Nat.zero_le _, rfl, hE0⟩ ?_
  clear hE0
  rintro i w0 ⟨hi, hT, hE0⟩
  by_cases hlt : i < l.length
  · by_cases he : lowB (l.getD i 0) = l.getD i 0
    · have he' : ((lowB (l.getD i 0)).toNat : Int) = (l.getD i 0).toNat := by rw [he]
      have hT' : lowS (l.take (i + 1)) = l.take (i + 1) := by rw [low_take hlt, hT, he, ← take_get hlt]
      refine Cd.seq ?_
      refine Cd.seq ?_
      refine Cd.anyE (by kernel_rfl) (fun w3 hE3 => ?_)
      replace hE0 := Ext.trans hE0 hE3
      refine SegA.pure 0 rfl (by kernel_rfl) (by kernel_rfl) (by kernel_rfl) rfl rfl (fun _ => Yd.move rfl) ?_
      refine SegA.pure 1 rfl (by kernel_rfl) (by kernel_rfl) (by kernel_rfl) rfl rfl (fun _ => Yd.move rfl) ?_
      refine SegA.pure 2 rfl (by kernel_rfl) (by kernel_rfl) (by kernel_rfl) rfl rfl (fun _ => Yd.lenStr rfl rfl) ?_
      refine SegA.pure 3 rfl (by kernel_rfl) (by kernel_rfl) (by kernel_rfl) rfl rfl (fun _ => Yd.lss rfl rfl) ?_
      refine SegA.pure 4 rfl (by kernel_rfl) (by kernel_rfl) (by kernel_rfl) rfl rfl (fun _ => Yd.move rfl) ?_
      refine SegA.held 14 ?_
      refine SegG.gsplitp 5 rfl rfl rfl (fun h10 => ?_) (fun h10 => ?_)
      · refine SegG.take 5 rfl (by kernel_rfl) (by kernel_rfl) (by kernel_rfl) (by kernel_rfl) (by kernel_rfl) rfl rfl (fun w' hw' => Yd.move rfl) ?_
        refine SegG.take 6 rfl (by kernel_rfl) (by kernel_rfl) (by kernel_rfl) (by kernel_rfl) (by kernel_rfl) rfl rfl (fun w' hw' => Yd.move rfl) ?_
        refine SegG.take 7 rfl (by kernel_rfl) (by kernel_rfl) (by kernel_rfl) (by kernel_rfl) (by kernel_rfl) rfl rfl (fun w' hw' => Yd.indexStr rfl rfl rfl (NatOf.cast _) (by omega)) ?_
        refine SegG.take 9 rfl (by kernel_rfl) (by kernel_rfl) (by kernel_rfl) (by kernel_rfl) (by kernel_rfl) rfl rfl (fun w' hw' => Yd.move rfl) ?_
        refine SegG.take 10 rfl (by kernel_rfl) (by kernel_rfl) (by kernel_rfl) (by kernel_rfl) (by kernel_rfl) rfl rfl (fun w' hw' => Yd.move rfl) ?_
        refine SegG.take 11 rfl (by kernel_rfl) (by kernel_rfl) (by kernel_rfl) (by kernel_rfl) (by kernel_rfl) rfl rfl (fun w' hw' => Yd.indexStr rfl rfl rfl (NatOf.cast _) (by omega)) ?_
        refine SegG.oneSeg (o := ⟨_, _, _, _, _, _⟩) 8 rfl (by kernel_rfl) ?_
        (refine Seg.call rfl rfl (own_of rfl) rfl (small_any _ _) ?_; rintro _ w19 ⟨rfl, hE19⟩)
        replace hE3 := Ext.trans hE3 hE19
        replace hE0 := Ext.trans hE0 hE19
        refine SegG.back rfl (by first | assumption | exact Ext.refl _) ?_
        refine SegG.take 12 rfl (by kernel_rfl) (by kernel_rfl) (by kernel_rfl) (by kernel_rfl) (by kernel_rfl) rfl rfl (fun w' hw' => Yd.eql rfl rfl) ?_
        refine SegG.take 13 rfl (by kernel_rfl) (by kernel_rfl) (by kernel_rfl) (by kernel_rfl) (by kernel_rfl) rfl rfl (fun w' hw' => Yd.pickT rfl rfl) ?_
        refine SegG.done (by kernel_rfl) ?_
        refine At.then_ ?_
        refine Cd.condk rfl (fun h25 => ?_) (fun h25 => ?_)
        · refine Cd.skip ?_
          refine At.then_ ?_
          refine Cd.block ?_
          refine Cd.region ?_
          refine Seg.step rfl rfl (Yd.move rfl) ?_
          refine Seg.step rfl rfl (Yd.addI rfl rfl (by omega)) ?_
          refine Seg.step rfl rfl (Yd.assign rfl) ?_
          refine Seg.nil ?_
          refine At.blk ?_
          exact At.round (i + 1) (.cons rfl (.cons rfl (.nil _))) ⟨hlt, hT', hE0⟩ (Nat.sub_lt_sub_left hlt (Nat.lt_succ_self i))
        · exfalso; omega
      · exfalso; omega
    · have he' : ¬ ((lowB (l.getD i 0)).toNat : Int) = (l.getD i 0).toNat := fun h => he (u8_ne.1 h)
      refine Cd.seq ?_
      refine Cd.seq ?_
      refine Cd.anyE (by kernel_rfl) (fun w3 hE3 => ?_)
      replace hE0 := Ext.trans hE0 hE3
      refine SegA.pure 0 rfl (by kernel_rfl) (by kernel_rfl) (by kernel_rfl) rfl rfl (fun _ => Yd.move rfl) ?_
      refine SegA.pure 1 rfl (by kernel_rfl) (by kernel_rfl) (by kernel_rfl) rfl rfl (fun _ => Yd.move rfl) ?_
      refine SegA.pure 2 rfl (by kernel_rfl) (by kernel_rfl) (by kernel_rfl) rfl rfl (fun _ => Yd.lenStr rfl rfl) ?_
      refine SegA.pure 3 rfl (by kernel_rfl) (by kernel_rfl) (by kernel_rfl) rfl rfl (fun _ => Yd.lss rfl rfl) ?_
      refine SegA.pure 4 rfl (by kernel_rfl) (by kernel_rfl) (by kernel_rfl) rfl rfl (fun _ => Yd.move rfl) ?_
      refine SegA.held 14 ?_
      refine SegG.gsplitp 5 rfl rfl rfl (fun h10 => ?_) (fun h10 => ?_)
      rotate_left 1
      · exfalso; omega
      rotate_right 1
      refine SegG.take 5 rfl (by kernel_rfl) (by kernel_rfl) (by kernel_rfl) (by kernel_rfl) (by kernel_rfl) rfl rfl (fun w' hw' => Yd.move rfl) ?_
      refine SegG.take 6 rfl (by kernel_rfl) (by kernel_rfl) (by kernel_rfl) (by kernel_rfl) (by kernel_rfl) rfl rfl (fun w' hw' => Yd.move rfl) ?_
      refine SegG.take 7 rfl (by kernel_rfl) (by kernel_rfl) (by kernel_rfl) (by kernel_rfl) (by kernel_rfl) rfl rfl (fun w' hw' => Yd.indexStr rfl rfl rfl (NatOf.cast _) (by omega)) ?_
      refine SegG.take 9 rfl (by kernel_rfl) (by kernel_rfl) (by kernel_rfl) (by kernel_rfl) (by kernel_rfl) rfl rfl (fun w' hw' => Yd.move rfl) ?_
      refine SegG.take 10 rfl (by kernel_rfl) (by kernel_rfl) (by kernel_rfl) (by kernel_rfl) (by kernel_rfl) rfl rfl (fun w' hw' => Yd.move rfl) ?_
      refine SegG.take 11 rfl (by kernel_rfl) (by kernel_rfl) (by kernel_rfl) (by kernel_rfl) (by kernel_rfl) rfl rfl (fun w' hw' => Yd.indexStr rfl rfl rfl (NatOf.cast _) (by omega)) ?_
      refine SegG.oneSeg (o := ⟨_, _, _, _, _, _⟩) 8 rfl (by kernel_rfl) ?_
      (refine Seg.call rfl rfl (own_of rfl) rfl (small_any _ _) ?_; rintro _ w19 ⟨rfl, hE19⟩)
      replace hE3 := Ext.trans hE3 hE19
      replace hE0 := Ext.trans hE0 hE19
      refine SegG.back rfl (by first | assumption | exact Ext.refl _) ?_
      refine SegG.take 12 rfl (by kernel_rfl) (by kernel_rfl) (by kernel_rfl) (by kernel_rfl) (by kernel_rfl) rfl rfl (fun w' hw' => Yd.eql rfl rfl) ?_
      refine SegG.take 13 rfl (by kernel_rfl) (by kernel_rfl) (by kernel_rfl) (by kernel_rfl) (by kernel_rfl) rfl rfl (fun w' hw' => Yd.pickT rfl rfl) ?_
      refine SegG.done (by kernel_rfl) ?_
      refine At.then_ ?_
      refine Cd.condk rfl (fun h25 => ?_) (fun h25 => ?_)
      · exfalso; omega
      refine Cd.exit ?_
      refine At.then_exit ?_
      refine At.then_exit ?_
      refine At.blk_same ?_
      refine At.then_ ?_
      refine Cd.seq ?_
      refine Cd.seq ?_
      refine Cd.region ?_
      refine Seg.step rfl rfl (Yd.move rfl) ?_
      refine Seg.step rfl rfl (Yd.move rfl) ?_
      refine Seg.step rfl rfl (Yd.lenStr rfl rfl) ?_
      refine Seg.step rfl rfl (Yd.eql rfl rfl) ?_
      refine Seg.nil ?_
      refine At.then_ ?_
      refine Cd.condk rfl (fun h41 => ?_) (fun h41 => ?_)
      · exfalso; omega
      refine Cd.skip ?_
      refine At.then_ ?_
      refine Cd.seq ?_
      refine Cd.region ?_
      refine Seg.step rfl rfl (Yd.move rfl) ?_
      (refine Seg.stb rfl rfl rfl rfl rfl rfl (fun w48 b48 zs cc hE48 hB48 hL48 => ?_); have hwb := Nat.le_trans (Below.size hE0) hL48)
      refine Seg.step rfl rfl (Yd.assign rfl) ?_
      refine Seg.nil ?_
      refine At.then_ ?_
      refine Cd.seq ?_
      refine Cd.block ?_
      have hB0 : Bf w48 b48 (bytesV (lowS (l.take i) ++ l.drop i) ++ zs) := by rw [hT, List.take_append_drop]; exact hB48
      clear hB48 hL48
      refine Cd.loop (σ := Nat) (fun j => [(3, .int .i64 (j : Int)), (4, .slice (some ⟨b48, 0, none⟩) l.length cc)])
        (fun j w' => j ≤ l.length ∧ Bf w' b48 (bytesV (lowS (l.take j) ++ l.drop j) ++ zs) ∧ Ext w w') (fun j => l.length - j) i (.cons rfl (.cons rfl (.nil _))) ⟨hi, hB0, Ext.trans hE0 hE48⟩ ?_
      clear hE0 hB0
      rintro j w1 ⟨hj, hB, hE0⟩
      by_cases hjl : j < l.length
      · have hlen : j < (bytesV (lowS (l.take j) ++ l.drop j) ++ zs).length := by
          rw [List.length_append, bytesV_len, List.length_append, lowS_length, List.length_take, List.length_drop]; omega
        refine Cd.seq ?_
        refine Cd.seq ?_
        refine Cd.region ?_
        refine Seg.step rfl rfl (Yd.move rfl) ?_
        refine Seg.step rfl rfl (Yd.move rfl) ?_
        refine Seg.step rfl rfl (Yd.lenS rfl rfl) ?_
        refine Seg.step rfl rfl (Yd.lss rfl rfl) ?_
        refine Seg.nil ?_
        refine At.then_ ?_
        refine Cd.condk rfl (fun h58 => ?_) (fun h58 => ?_)
        · refine Cd.skip ?_
          refine At.then_ ?_
          refine Cd.seq ?_
          refine Cd.block ?_
          refine Cd.region ?_
          refine Seg.step rfl rfl (Yd.move rfl) ?_
          refine Seg.step rfl rfl (Yd.move rfl) ?_
          refine Seg.step rfl rfl (Yd.move rfl) ?_
          refine Seg.step rfl rfl (Yd.move rfl) ?_
          refine Seg.step rfl rfl (Yd.indexAddr1 rfl rfl rfl (NatOf.cast _) (by omega)) ?_
          refine Seg.step rfl rfl (Yd.load1 rfl rfl (hB.row _ _ (low_get hjl))) ?_
          (refine Seg.call rfl rfl (own_of rfl) rfl (small_any _ _) ?_; rintro _ w71 ⟨rfl, hE71⟩)
          replace hB := hB.ext hE71
          replace hE0 := Ext.trans hE0 hE71
          refine Seg.step rfl rfl (Yd.indexAddr1 rfl rfl rfl (NatOf.cast _) (by omega)) ?_
          (refine Seg.storeF rfl rfl rfl rfl rfl hB hlen (fun w73 hW hB' => ?_); rw [low_set hjl] at hB'; replace hE0 := hE0.wr' hW hwb)
          refine Seg.nil ?_
          refine At.blk ?_
          refine At.then_ ?_
          refine Cd.region ?_
          refine Seg.step rfl rfl (Yd.move rfl) ?_
          refine Seg.step rfl rfl (Yd.addI rfl rfl (by omega)) ?_
          refine Seg.step rfl rfl (Yd.assign rfl) ?_
          refine Seg.nil ?_
          exact At.round (j + 1) (.cons rfl (.cons rfl (.nil _))) ⟨hjl, hB', hE0⟩ (Nat.sub_lt_sub_left hjl (Nat.lt_succ_self j))
        · exfalso; omega
      · have hfin : lowS (l.take j) ++ l.drop j = lowS l := by rw [List.take_of_length_le (by omega), List.drop_of_length_le (by omega), List.append_nil]
        rw [hfin] at hB
        have hS : Sl w1 1 (.slice (some ⟨b48, 0, none⟩) l.length cc) (lowS l).length (bytesV (lowS l)) := by rw [lowS_length]; exact hB.sl (by rw [bytesV_len, lowS_length]) cc
        refine Cd.seq ?_
        refine Cd.seq ?_
        refine Cd.region ?_
        refine Seg.step rfl rfl (Yd.move rfl) ?_
        refine Seg.step rfl rfl (Yd.move rfl) ?_
        refine Seg.step rfl rfl (Yd.lenS rfl rfl) ?_
        refine Seg.step rfl rfl (Yd.lss rfl rfl) ?_
        refine Seg.nil ?_
        refine At.then_ ?_
        refine Cd.condk rfl (fun h58 => ?_) (fun h58 => ?_)
        · exfalso; omega
        · refine Cd.exit ?_
          refine At.then_exit ?_
          refine At.then_exit ?_
          refine At.blk_same ?_
          refine At.then_ ?_
          refine Cd.seq ?_
          refine Cd.region ?_
          refine Seg.step rfl rfl (Yd.move rfl) ?_
          (refine Seg.step rfl rfl (Yd.bts (l := lowS l) rfl rfl rfl rfl hS) ?_)
          refine Seg.step rfl rfl (Yd.assign rfl) ?_
          refine Seg.nil ?_
          refine At.then_ ?_
          refine Cd.ret ?_
          exact At.ret Try.results36 (.tmp rfl .nil) ⟨rfl, by assumption⟩
  · have hil : l.take i = l := List.take_of_length_le (by omega)
    rw [hil] at hT
    have hR : Value.string ⟨l.toArray⟩ = .string ⟨(lowS l).toArray⟩ := by rw [hT]
    refine Cd.seq ?_
    refine Cd.seq ?_
    refine Cd.anyE (by kernel_rfl) (fun w3 hE3 => ?_)
    replace hE0 := Ext.trans hE0 hE3
    refine SegA.pure 0 rfl (by kernel_rfl) (by kernel_rfl) (by kernel_rfl) rfl rfl (fun _ => Yd.move rfl) ?_
    refine SegA.pure 1 rfl (by kernel_rfl) (by kernel_rfl) (by kernel_rfl) rfl rfl (fun _ => Yd.move rfl) ?_
    refine SegA.pure 2 rfl (by kernel_rfl) (by kernel_rfl) (by kernel_rfl) rfl rfl (fun _ => Yd.lenStr rfl rfl) ?_
    refine SegA.pure 3 rfl (by kernel_rfl) (by kernel_rfl) (by kernel_rfl) rfl rfl (fun _ => Yd.lss rfl rfl) ?_
    refine SegA.pure 4 rfl (by kernel_rfl) (by kernel_rfl) (by kernel_rfl) rfl rfl (fun _ => Yd.move rfl) ?_
    refine SegA.held 14 ?_
    refine SegG.gsplitp 5 rfl rfl rfl (fun h10 => ?_) (fun h10 => ?_)
    · exfalso; omega
    · refine SegG.skip 5 rfl (by kernel_rfl) (by kernel_rfl) (by kernel_rfl) (by kernel_rfl) (by kernel_rfl) rfl rfl ?_
      refine SegG.skip 6 rfl (by kernel_rfl) (by kernel_rfl) (by kernel_rfl) (by kernel_rfl) (by kernel_rfl) rfl rfl ?_
      refine SegG.skip 7 rfl (by kernel_rfl) (by kernel_rfl) (by kernel_rfl) (by kernel_rfl) (by kernel_rfl) rfl rfl ?_
      refine SegG.skip 8 rfl (by kernel_rfl) (by kernel_rfl) (by kernel_rfl) (by kernel_rfl) (by kernel_rfl) rfl rfl ?_
      refine SegG.skip 9 rfl (by kernel_rfl) (by kernel_rfl) (by kernel_rfl) (by kernel_rfl) (by kernel_rfl) rfl rfl ?_
      refine SegG.skip 10 rfl (by kernel_rfl) (by kernel_rfl) (by kernel_rfl) (by kernel_rfl) (by kernel_rfl) rfl rfl ?_
      refine SegG.skip 11 rfl (by kernel_rfl) (by kernel_rfl) (by kernel_rfl) (by kernel_rfl) (by kernel_rfl) rfl rfl ?_
      refine SegG.skip 12 rfl (by kernel_rfl) (by kernel_rfl) (by kernel_rfl) (by kernel_rfl) (by kernel_rfl) rfl rfl ?_
      refine SegG.take 13 rfl (by kernel_rfl) (by kernel_rfl) (by kernel_rfl) (by kernel_rfl) (by kernel_rfl) rfl rfl (fun w' hw' => Yd.pickF rfl rfl) ?_
      refine SegG.done (by kernel_rfl) ?_
      refine At.then_ ?_
      refine Cd.condF rfl ?_
      refine Cd.exit ?_
      refine At.then_exit ?_
      refine At.then_exit ?_
      refine At.blk_same ?_
      refine At.then_ ?_
      refine Cd.seq ?_
      refine Cd.seq ?_
      refine Cd.region ?_
      refine Seg.step rfl rfl (Yd.move rfl) ?_
      refine Seg.step rfl rfl (Yd.move rfl) ?_
      refine Seg.step rfl rfl (Yd.lenStr rfl rfl) ?_
      refine Seg.step rfl rfl (Yd.eql rfl rfl) ?_
      refine Seg.nil ?_
      refine At.then_ ?_
      refine Cd.condk rfl (fun h38 => ?_) (fun h38 => ?_)
      · refine Cd.seq ?_
        refine Cd.region ?_
        refine Seg.step rfl rfl (Yd.move rfl) ?_
        refine Seg.step rfl rfl (Yd.assign rfl) ?_
        refine Seg.nil ?_
        refine At.then_ ?_
        refine Cd.ret ?_
        refine At.then_ret ?_
        exact At.ret Try.results36 (.tmp rfl .nil) ⟨hR, by assumption⟩
      · exfalso; omega
end Go.Proofs.Ytbmgigbedmgfpaa
