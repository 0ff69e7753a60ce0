/- The reference's numbers: the walk. -/
import Derived.Test.YtbmgigbedmgfpaaRfc
namespace Go.Proofs.Ytbmgigbedmgfpaa
open Go Go.RowKit
theorem val_pow : ∀ (m l : List UInt8), valB l * 10 ^ m.length ≤ valB (l ++ m)
  | [], l => by simp
  | b :: m, l => by
    have h := val_pow m (l ++ [b])
    have h1 := val_snoc l b
    have e : l ++ b :: m = l ++ [b] ++ m := by simp
    rw [e, List.length_cons, Nat.pow_succ]
    have h2 : valB l * 10 ≤ valB (l ++ [b]) := by omega
    have h3 : valB l * (10 ^ m.length * 10) = valB l * 10 * 10 ^ m.length := by rw [Nat.mul_comm (10 ^ m.length) 10, Nat.mul_assoc]
    rw [h3]
    exact Nat.le_trans (Nat.mul_le_mul_right _ h2) h
theorem val_zeros {l : List UInt8} : ∀ {i : Nat}, i ≤ l.length → (∀ b ∈ l.take i, b = 48) → valB (l.take i) = 0
  | 0, _, _ => by simp [valB]
  | i + 1, hi, h => by
    have hs := val_snoc (l.take i) (l.getD i 0)
    rw [← take_get hi] at hs
    have h1 := val_zeros (l := l) (i := i) (by omega) (fun b hb => h b (by rw [take_get hi]; exact List.mem_append_left _ hb))
    have h2 : l.getD i 0 = 48 := h _ (by rw [take_get hi]; simp)
    rw [hs, h1, h2]; rfl
theorem val_long {l : List UInt8} {f most : Nat} (hm : most ≤ 1000000) (hd : ∀ b ∈ l, isDg b) (hf : 19 < l.length - f) (h48 : ¬ l.getD f 0 = 48) : most < valB l := by
  have hfl : f < l.length := by omega
  have hmem : l.getD f 0 ∈ l := by
    have : l.getD f 0 = l[f] := by simp [List.getD, hfl]
    rw [this]; exact List.getElem_mem hfl
  obtain ⟨h1, h2⟩ := hd _ hmem
  have h3 : 48 < (l.getD f 0).toNat := by
    rcases Nat.lt_or_ge 48 (l.getD f 0).toNat with h | h
    · exact h
    · exact absurd (u8_ne.1 (show ((l.getD f 0).toNat : Int) = ((48 : UInt8).toNat : Int) by
        have : (l.getD f 0).toNat = 48 := by omega
        rw [this]; rfl)) h48
  have hs := val_snoc (l.take f) (l.getD f 0)
  rw [← take_get hfl] at hs
  have hp := val_pow (l.drop (f + 1)) (l.take (f + 1))
  rw [List.take_append_drop, List.length_drop] at hp
  have h10 : 10 ^ 7 ≤ 10 ^ (l.length - (f + 1)) := Nat.pow_le_pow_right (by omega) (by omega)
  have h1v : 1 ≤ valB (l.take (f + 1)) := by omega
  have := Nat.mul_le_mul h1v h10
  omega
theorem val_below {l : List UInt8} {f j : Nat} (hd : ∀ b ∈ l, isDg b) (hf : f ≤ l.length) (hz : valB (l.take f) = 0) : ∀ k, f + k ≤ l.length → valB (l.take (f + k)) < 10 ^ k
  | 0, _ => by simp [hz]
  | k + 1, h => by
    have ih := val_below (j := j) hd hf hz k (by omega)
    have hk : f + k < l.length := by omega
    have hmem : l.getD (f + k) 0 ∈ l := by
      have : l.getD (f + k) 0 = l[f + k] := by simp [List.getD, hk]
      rw [this]; exact List.getElem_mem hk
    obtain ⟨h1, h2⟩ := hd _ hmem
    have hs := val_snoc (l.take (f + k)) (l.getD (f + k) 0)
    rw [← take_get hk] at hs
    rw [← Nat.add_assoc, hs, Nat.pow_succ]
    omega
section
variable {P : Program} {n : Nat} {fr : Fr} {w : World} {T U U' : TypeId} {x y : Operand}
theorem Yd.addU {i j : Int} (hx : Fr.ev fr x = some (.int .u64 i)) (hy : Fr.ev fr y = some (.int .u64 j)) (h : 0 ≤ i + j ∧ i + j ≤ 18446744073709551615) : Yd P n (.binOp .add U x y U') T fr w (.int .u64 (i + j)) w := by
  have := Yd.add (P := P) (n := n) (w := w) (T := T) (U := U) (U' := U') hx hy
  rwa [IntWalk.u64_in _ h] at this
theorem Yd.mulU {i j : Int} (hx : Fr.ev fr x = some (.int .u64 i)) (hy : Fr.ev fr y = some (.int .u64 j)) (h : 0 ≤ i * j ∧ i * j ≤ 18446744073709551615) : Yd P n (.binOp .mul U x y U') T fr w (.int .u64 (i * j)) w := by
  have := Yd.mul (P := P) (n := n) (w := w) (T := T) (U := U) (U' := U') hx hy
  rwa [IntWalk.u64_in _ h] at this
end
theorem rnumber_any (l : List UInt8) (most : Nat) (w : World) (hl : l.length ≤ 1000000) (hm : most ≤ 1000000) : Ret Try.prog 23 #[.string ⟨l.toArray⟩, .int .i64 (most : Int)] w fun v w' => v = .tuple #[.int .i64 (numB l most).1, .int .i64 (numB l most).2] ∧ Ext w w' := by
  have hE0 := Ext.refl w
  refine Ret.body Try.func23 rfl Try.ntmps23 rfl ?_
  by_cases h0 : l = []
  · rw [num_bad (.inl h0)]
    refine Cd.seq ?_
    refine Cd.region ?_
    refine Seg.step rfl rfl (Yd.assign rfl) ?_
    refine Seg.step rfl rfl (Yd.assign rfl) ?_
    refine Seg.nil ?_
    refine At.then_ ?_
    refine Cd.seq ?_
    refine Cd.seq ?_
    refine Cd.region ?_
    refine Seg.step rfl rfl (Yd.move rfl) ?_
    refine Seg.step rfl rfl (Yd.eqlS rfl rfl) ?_
    refine Seg.nil ?_
    refine At.then_ ?_
    refine Cd.condk rfl (fun h14 => ?_) (fun h14 => ?_)
    · refine Cd.seq ?_
      refine Cd.region ?_
      refine Seg.step rfl rfl (Yd.assign rfl) ?_
      refine Seg.step rfl rfl (Yd.assign rfl) ?_
      refine Seg.nil ?_
      refine At.then_ ?_
      refine Cd.ret ?_
      refine At.then_ret ?_
      exact At.ret Try.results23 (.tmp rfl (.tmp rfl .nil)) ⟨rfl, by assumption⟩
    · contradiction
  · refine Cd.seq ?_
    refine Cd.region ?_
    refine Seg.step rfl rfl (Yd.assign rfl) ?_
    refine Seg.step rfl rfl (Yd.assign rfl) ?_
    refine Seg.nil ?_
    refine At.then_ ?_
    refine Cd.seq ?_
    refine Cd.seq ?_
    refine Cd.region ?_
    refine Seg.step rfl rfl (Yd.move rfl) ?_
    refine Seg.step rfl rfl (Yd.eqlS rfl rfl) ?_
    refine Seg.nil ?_
    refine At.then_ ?_
    refine Cd.condk rfl (fun h14 => ?_) (fun h14 => ?_)
    · contradiction
    refine Cd.skip ?_
    refine At.then_ ?_
    refine Cd.seq ?_
    refine Cd.seq ?_
    refine Cd.region ?_
    refine Seg.step rfl rfl (Yd.assign rfl) ?_
    refine Seg.nil ?_
    refine At.then_ ?_
    refine Cd.block ?_
    refine Cd.loop (σ := Nat) (fun i => [(0, .string ⟨l.toArray⟩), (1, .int .i64 (most : Int)), (4, .int .i64 0), (5, .int .i64 0), (6, .int .i64 (i : Int))])
      (fun i w' => i ≤ l.length ∧ (∀ b ∈ l.take i, isDg b) ∧ Ext w w') (fun i => l.length - i) 0 (.cons rfl (.cons rfl (.cons rfl (.cons rfl (.cons rfl (.nil _)))))) ⟨Nat.zero_le _, fun b h => by simp at h, by assumption⟩ ?_
    clear hE0
    rintro i w0 ⟨hi, hT, hE0⟩
    by_cases hlt : i < l.length
    · have hmem : l.getD i 0 ∈ l := by
        have : l.getD i 0 = l[i] := by simp [List.getD, hlt]
        rw [this]; exact List.getElem_mem hlt
      by_cases hd : isDg (l.getD i 0)
      · have hd1 : ¬ ((l.getD i 0).toNat : Int) < 48 := by have := hd.1; omega
        have hd2 : ¬ (57 : Int) < (l.getD i 0).toNat := by have := hd.2; omega
        have hT' : ∀ b ∈ l.take (i + 1), isDg b := fun b hb => by
          rw [take_get hlt] at hb
          rcases List.mem_append.1 hb with hb | hb
          · exact hT b hb
          · rw [List.mem_singleton.1 hb]; exact hd
        refine Cd.seq ?_
        refine Cd.seq ?_
        refine Cd.region ?_
        refine Seg.step rfl rfl (Yd.move rfl) ?_
        refine Seg.step rfl rfl (Yd.move rfl) ?_
        refine Seg.step rfl rfl (Yd.lenStr rfl rfl) ?_
        refine Seg.step rfl rfl (Yd.lss rfl rfl) ?_
        refine Seg.nil ?_
        refine At.then_ ?_
        refine Cd.condk rfl (fun h24 => ?_) (fun h24 => ?_)
        · refine Cd.skip ?_
          refine At.then_ ?_
          refine Cd.seq ?_
          refine Cd.block ?_
          refine Cd.seq ?_
          refine Cd.region ?_
          refine Seg.step rfl rfl (Yd.move rfl) ?_
          refine Seg.step rfl rfl (Yd.move rfl) ?_
          refine Seg.step rfl rfl (Yd.indexStr rfl rfl rfl (NatOf.cast _) (by omega)) ?_
          refine Seg.step rfl rfl (Yd.lss rfl rfl) ?_
          refine Seg.step rfl rfl (Yd.move rfl) ?_
          refine Seg.gsplitp rfl rfl (fun h37 => ?_) (fun h37 => ?_)
          · exfalso; omega
          · refine Seg.step rfl rfl (Yd.move rfl) ?_
            refine Seg.step rfl rfl (Yd.move rfl) ?_
            refine Seg.step rfl rfl (Yd.indexStr rfl rfl rfl (NatOf.cast _) (by omega)) ?_
            refine Seg.step rfl rfl (Yd.gtr rfl rfl) ?_
            refine Seg.step rfl rfl (Yd.pickF rfl rfl) ?_
            refine Seg.nil ?_
            refine At.then_ ?_
            refine Cd.condk rfl (fun h46 => ?_) (fun h46 => ?_)
            · exfalso; omega
            · refine Cd.skip ?_
              refine At.blk ?_
              refine At.then_ ?_
              refine Cd.region ?_
              refine Seg.step rfl rfl (Yd.move rfl) ?_
              refine Seg.step rfl rfl (Yd.addI rfl rfl (by omega)) ?_
              refine Seg.step rfl rfl (Yd.assign rfl) ?_
              refine Seg.nil ?_
              exact At.round (i + 1) (.cons rfl (.cons rfl (.cons rfl (.cons rfl (.cons rfl (.nil _)))))) ⟨hlt, hT', hE0⟩ (Nat.sub_lt_sub_left hlt (Nat.lt_succ_self i))
        · exfalso; omega
      · have hbad := num_bad (l := l) (most := most) (.inr (fun h => hd (h _ hmem)))
        have hd' : ((l.getD i 0).toNat : Int) < 48 ∨ ¬ ((l.getD i 0).toNat : Int) < 48 ∧ (57 : Int) < (l.getD i 0).toNat := by
          have hd' : ¬ (48 ≤ (l.getD i 0).toNat ∧ (l.getD i 0).toNat ≤ 57) := hd
          omega
        rw [hbad]
        rcases hd' with hd1 | ⟨hd1, hd2⟩
        · refine Cd.seq ?_
          refine Cd.seq ?_
          refine Cd.region ?_
          refine Seg.step rfl rfl (Yd.move rfl) ?_
          refine Seg.step rfl rfl (Yd.move rfl) ?_
          refine Seg.step rfl rfl (Yd.lenStr rfl rfl) ?_
          refine Seg.step rfl rfl (Yd.lss rfl rfl) ?_
          refine Seg.nil ?_
          refine At.then_ ?_
          refine Cd.condk rfl (fun h24 => ?_) (fun h24 => ?_)
          · refine Cd.skip ?_
            refine At.then_ ?_
            refine Cd.seq ?_
            refine Cd.block ?_
            refine Cd.seq ?_
            refine Cd.region ?_
            refine Seg.step rfl rfl (Yd.move rfl) ?_
            refine Seg.step rfl rfl (Yd.move rfl) ?_
            refine Seg.step rfl rfl (Yd.indexStr rfl rfl rfl (NatOf.cast _) (by omega)) ?_
            refine Seg.step rfl rfl (Yd.lss rfl rfl) ?_
            refine Seg.step rfl rfl (Yd.move rfl) ?_
            refine Seg.gsplitp rfl rfl (fun h37 => ?_) (fun h37 => ?_)
            · refine Seg.skip rfl rfl ?_
              refine Seg.skip rfl rfl ?_
              refine Seg.skip rfl rfl ?_
              refine Seg.skip rfl rfl ?_
              refine Seg.step rfl rfl (Yd.pickT rfl rfl) ?_
              refine Seg.nil ?_
              refine At.then_ ?_
              refine Cd.condT rfl ?_
              refine Cd.seq ?_
              refine Cd.region ?_
              refine Seg.step rfl rfl (Yd.assign rfl) ?_
              refine Seg.step rfl rfl (Yd.assign rfl) ?_
              refine Seg.nil ?_
              refine At.then_ ?_
              refine Cd.ret ?_
              refine At.blk_ret ?_
              refine At.then_ret ?_
              refine At.then_ret ?_
              refine At.blk_ret ?_
              refine At.then_ret ?_
              exact At.ret Try.results23 (.tmp rfl (.tmp rfl .nil)) ⟨rfl, by assumption⟩
            · exfalso; omega
          · exfalso; omega
        · refine Cd.seq ?_
          refine Cd.seq ?_
          refine Cd.region ?_
          refine Seg.step rfl rfl (Yd.move rfl) ?_
          refine Seg.step rfl rfl (Yd.move rfl) ?_
          refine Seg.step rfl rfl (Yd.lenStr rfl rfl) ?_
          refine Seg.step rfl rfl (Yd.lss rfl rfl) ?_
          refine Seg.nil ?_
          refine At.then_ ?_
          refine Cd.condk rfl (fun h24 => ?_) (fun h24 => ?_)
          · refine Cd.skip ?_
            refine At.then_ ?_
            refine Cd.seq ?_
            refine Cd.block ?_
            refine Cd.seq ?_
            refine Cd.region ?_
            refine Seg.step rfl rfl (Yd.move rfl) ?_
            refine Seg.step rfl rfl (Yd.move rfl) ?_
            refine Seg.step rfl rfl (Yd.indexStr rfl rfl rfl (NatOf.cast _) (by omega)) ?_
            refine Seg.step rfl rfl (Yd.lss rfl rfl) ?_
            refine Seg.step rfl rfl (Yd.move rfl) ?_
            refine Seg.gsplitp rfl rfl (fun h37 => ?_) (fun h37 => ?_)
            · exfalso; omega
            · refine Seg.step rfl rfl (Yd.move rfl) ?_
              refine Seg.step rfl rfl (Yd.move rfl) ?_
              refine Seg.step rfl rfl (Yd.indexStr rfl rfl rfl (NatOf.cast _) (by omega)) ?_
              refine Seg.step rfl rfl (Yd.gtr rfl rfl) ?_
              refine Seg.step rfl rfl (Yd.pickF rfl rfl) ?_
              refine Seg.nil ?_
              refine At.then_ ?_
              refine Cd.condk rfl (fun h46 => ?_) (fun h46 => ?_)
              · refine Cd.seq ?_
                refine Cd.region ?_
                refine Seg.step rfl rfl (Yd.assign rfl) ?_
                refine Seg.step rfl rfl (Yd.assign rfl) ?_
                refine Seg.nil ?_
                refine At.then_ ?_
                refine Cd.ret ?_
                refine At.blk_ret ?_
                refine At.then_ret ?_
                refine At.then_ret ?_
                refine At.blk_ret ?_
                refine At.then_ret ?_
                exact At.ret Try.results23 (.tmp rfl (.tmp rfl .nil)) ⟨rfl, by assumption⟩
              · exfalso; omega
          · exfalso; omega
    · have hil : l.take i = l := List.take_of_length_le (by omega)
      rw [hil] at hT
      have hpos : 0 < l.length := List.length_pos_iff.2 h0
      have hgood : ¬ (l = [] ∨ ¬ (∀ b ∈ l, isDg b)) := fun h => h.elim h0 (fun h => h hT)
      refine Cd.seq ?_
      refine Cd.seq ?_
      refine Cd.region ?_
      refine Seg.step rfl rfl (Yd.move rfl) ?_
      refine Seg.step rfl rfl (Yd.move rfl) ?_
      refine Seg.step rfl rfl (Yd.lenStr rfl rfl) ?_
      refine Seg.step rfl rfl (Yd.lss rfl rfl) ?_
      refine Seg.nil ?_
      refine At.then_ ?_
      refine Cd.condk rfl (fun h24 => ?_) (fun h24 => ?_)
      · exfalso; omega
      refine Cd.exit ?_
      refine At.then_exit ?_
      refine At.then_exit ?_
      refine At.blk_same ?_
      refine At.then_ ?_
      refine Cd.seq ?_
      refine Cd.region ?_
      refine Seg.step rfl rfl (Yd.assign rfl) ?_
      refine Seg.nil ?_
      refine At.then_ ?_
      refine Cd.seq ?_
      refine Cd.block ?_
      refine Cd.loop (σ := Nat) (fun f => [(0, .string ⟨l.toArray⟩), (1, .int .i64 (most : Int)), (4, .int .i64 0), (5, .int .i64 0), (7, .int .i64 (f : Int))])
        (fun f w' => f < l.length ∧ (∀ b ∈ l.take f, b = 48) ∧ Ext w w') (fun f => l.length - f) 0 (.cons rfl (.cons rfl (.cons rfl (.cons rfl (.cons rfl (.nil _)))))) ⟨hpos, fun b h => by simp at h, by assumption⟩ ?_
      clear hE0
      rintro f w1 ⟨hf, hZ, hE0⟩
      by_cases hc1 : f < l.length - 1 ∧ l.getD f 0 = 48
      · have hc2 : (f : Int) < (l.length : Int) - 1 := by omega
        have hc3 : ((l.getD f 0).toNat : Int) = 48 := by rw [hc1.2]; rfl
        have hf' : f + 1 < l.length := by omega
        have hZ' : ∀ b ∈ l.take (f + 1), b = 48 := fun b hb => by
          rw [take_get hf] at hb
          rcases List.mem_append.1 hb with hb | hb
          · exact hZ b hb
          · rw [List.mem_singleton.1 hb]; exact hc1.2
        refine Cd.seq ?_
        refine Cd.seq ?_
        refine Cd.region ?_
        refine Seg.step rfl rfl (Yd.move rfl) ?_
        refine Seg.step rfl rfl (Yd.move rfl) ?_
        refine Seg.step rfl rfl (Yd.lenStr rfl rfl) ?_
        refine Seg.step rfl rfl (Yd.subI rfl rfl (by omega)) ?_
        refine Seg.step rfl rfl (Yd.lss rfl rfl) ?_
        refine Seg.step rfl rfl (Yd.move rfl) ?_
        refine Seg.gsplitp rfl rfl (fun h34 => ?_) (fun h34 => ?_)
        · refine Seg.step rfl rfl (Yd.move rfl) ?_
          refine Seg.step rfl rfl (Yd.move rfl) ?_
          refine Seg.step rfl rfl (Yd.indexStr rfl rfl rfl (NatOf.cast _) (by omega)) ?_
          refine Seg.step rfl rfl (Yd.eql rfl rfl) ?_
          refine Seg.step rfl rfl (Yd.pickT rfl rfl) ?_
          refine Seg.nil ?_
          refine At.then_ ?_
          refine Cd.condk rfl (fun h43 => ?_) (fun h43 => ?_)
          · refine Cd.skip ?_
            refine At.then_ ?_
            refine Cd.block ?_
            refine Cd.region ?_
            refine Seg.step rfl rfl (Yd.move rfl) ?_
            refine Seg.step rfl rfl (Yd.addI rfl rfl (by omega)) ?_
            refine Seg.step rfl rfl (Yd.assign rfl) ?_
            refine Seg.nil ?_
            refine At.blk ?_
            exact At.round (f + 1) (.cons rfl (.cons rfl (.cons rfl (.cons rfl (.cons rfl (.nil _)))))) ⟨hf', hZ', hE0⟩ (Nat.sub_lt_sub_left hf (Nat.lt_succ_self f))
          · exfalso; omega
        · exfalso; omega
      · have hz0 := val_zeros (Nat.le_of_lt hf) hZ
        have hb0 := val_below (j := 0) hT (Nat.le_of_lt hf) hz0
        have hm0 : ¬ (most : Int) < 0 := by omega
        by_cases hlong : 19 < l.length - f
        · have hc2 : (f : Int) < (l.length : Int) - 1 := by omega
          have hc4 : ¬ l.getD f 0 = 48 := fun h => hc1 ⟨by omega, h⟩
          have hc3 : ¬ ((l.getD f 0).toNat : Int) = 48 := fun h => hc4 (u8_ne.1 (by rw [h]; rfl))
          have hov := num_over hgood (val_long hm hT hlong hc4)
          have hlI : (19 : Int) < (l.length : Int) - (f : Int) := by omega
          rw [hov]
          refine Cd.seq ?_
          refine Cd.seq ?_
          refine Cd.region ?_
          refine Seg.step rfl rfl (Yd.move rfl) ?_
          refine Seg.step rfl rfl (Yd.move rfl) ?_
          refine Seg.step rfl rfl (Yd.lenStr rfl rfl) ?_
          refine Seg.step rfl rfl (Yd.subI rfl rfl (by omega)) ?_
          refine Seg.step rfl rfl (Yd.lss rfl rfl) ?_
          refine Seg.step rfl rfl (Yd.move rfl) ?_
          refine Seg.gsplitp rfl rfl (fun h34 => ?_) (fun h34 => ?_)
          · refine Seg.step rfl rfl (Yd.move rfl) ?_
            refine Seg.step rfl rfl (Yd.move rfl) ?_
            refine Seg.step rfl rfl (Yd.indexStr rfl rfl rfl (NatOf.cast _) (by omega)) ?_
            refine Seg.step rfl rfl (Yd.eql rfl rfl) ?_
            refine Seg.step rfl rfl (Yd.pickT rfl rfl) ?_
            refine Seg.nil ?_
            refine At.then_ ?_
            refine Cd.condk rfl (fun h43 => ?_) (fun h43 => ?_)
            · exfalso; omega
            · refine Cd.exit ?_
              refine At.then_exit ?_
              refine At.then_exit ?_
              refine At.blk_same ?_
              refine At.then_ ?_
              refine Cd.seq ?_
              refine Cd.seq ?_
              refine Cd.region ?_
              refine Seg.step rfl rfl (Yd.move rfl) ?_
              refine Seg.step rfl rfl (Yd.lenStr rfl rfl) ?_
              refine Seg.step rfl rfl (Yd.move rfl) ?_
              refine Seg.step rfl rfl (Yd.subI rfl rfl (by omega)) ?_
              refine Seg.step rfl rfl (Yd.gtr rfl rfl) ?_
              refine Seg.step rfl rfl (Yd.move rfl) ?_
              refine Seg.gsplitp rfl rfl (fun h59 => ?_) (fun h59 => ?_)
              · refine Seg.skip rfl rfl ?_
                refine Seg.skip rfl rfl ?_
                refine Seg.step rfl rfl (Yd.pickT rfl rfl) ?_
                refine Seg.nil ?_
                refine At.then_ ?_
                refine Cd.condT rfl ?_
                refine Cd.seq ?_
                refine Cd.region ?_
                refine Seg.step rfl rfl (Yd.assign rfl) ?_
                refine Seg.step rfl rfl (Yd.assign rfl) ?_
                refine Seg.nil ?_
                refine At.then_ ?_
                refine Cd.ret ?_
                refine At.then_ret ?_
                exact At.ret Try.results23 (.tmp rfl (.tmp rfl .nil)) ⟨rfl, by assumption⟩
              · exfalso; omega
          · exfalso; omega
        · have hlI : ¬ (19 : Int) < (l.length : Int) - (f : Int) := by omega
          by_cases hc2 : (f : Int) < (l.length : Int) - 1
          · have hc3 : ¬ ((l.getD f 0).toNat : Int) = 48 := fun h => hc1 ⟨by omega, u8_ne.1 (by rw [h]; rfl)⟩
            refine Cd.seq ?_
            refine Cd.seq ?_
            refine Cd.region ?_
            refine Seg.step rfl rfl (Yd.move rfl) ?_
            refine Seg.step rfl rfl (Yd.move rfl) ?_
            refine Seg.step rfl rfl (Yd.lenStr rfl rfl) ?_
            refine Seg.step rfl rfl (Yd.subI rfl rfl (by omega)) ?_
            refine Seg.step rfl rfl (Yd.lss rfl rfl) ?_
            refine Seg.step rfl rfl (Yd.move rfl) ?_
            refine Seg.gsplitp rfl rfl (fun h34 => ?_) (fun h34 => ?_)
            rotate_left 1
            · exfalso; omega
            rotate_right 1
            refine Seg.step rfl rfl (Yd.move rfl) ?_
            refine Seg.step rfl rfl (Yd.move rfl) ?_
            refine Seg.step rfl rfl (Yd.indexStr rfl rfl rfl (NatOf.cast _) (by omega)) ?_
            refine Seg.step rfl rfl (Yd.eql rfl rfl) ?_
            refine Seg.step rfl rfl (Yd.pickT rfl rfl) ?_
            refine Seg.nil ?_
            refine At.then_ ?_
            refine Cd.condk rfl (fun h43 => ?_) (fun h43 => ?_)
            · exfalso; omega
            refine Cd.exit ?_
            refine At.then_exit ?_
            refine At.then_exit ?_
            refine At.blk_same ?_
            refine At.then_ ?_
            refine Cd.seq ?_
            refine Cd.seq ?_
            refine Cd.region ?_
            refine Seg.step rfl rfl (Yd.move rfl) ?_
            refine Seg.step rfl rfl (Yd.lenStr rfl rfl) ?_
            refine Seg.step rfl rfl (Yd.move rfl) ?_
            refine Seg.step rfl rfl (Yd.subI rfl rfl (by omega)) ?_
            refine Seg.step rfl rfl (Yd.gtr rfl rfl) ?_
            refine Seg.step rfl rfl (Yd.move rfl) ?_
            refine Seg.gsplitp rfl rfl (fun h59 => ?_) (fun h59 => ?_)
            · exfalso; omega
            refine Seg.step rfl rfl (Yd.move rfl) ?_
            refine Seg.step rfl rfl (Yd.lss rfl rfl) ?_
            refine Seg.step rfl rfl (Yd.pickF rfl rfl) ?_
            refine Seg.nil ?_
            refine At.then_ ?_
            refine Cd.condF rfl ?_
            refine Cd.skip ?_
            refine At.then_ ?_
            refine Cd.seq ?_
            refine Cd.region ?_
            refine Seg.step rfl rfl (Yd.assign rfl) ?_
            refine Seg.nil ?_
            refine At.then_ ?_
            refine Cd.seq ?_
            refine Cd.seq ?_
            refine Cd.region ?_
            refine Seg.step rfl rfl (Yd.move rfl) ?_
            refine Seg.step rfl rfl (Yd.assign rfl) ?_
            refine Seg.nil ?_
            refine At.then_ ?_
            refine Cd.block ?_
            refine Cd.loop (σ := Nat) (fun k => [(0, .string ⟨l.toArray⟩), (1, .int .i64 (most : Int)), (4, .int .i64 0), (5, .int .i64 0), (8, .int .u64 (valB (l.take (f + k)) : Int)), (9, .int .i64 ((f + k : Nat) : Int))])
              (fun k w' => f + k ≤ l.length ∧ Ext w w') (fun k => l.length - (f + k)) 0 (.cons rfl (.cons rfl (.cons rfl (.cons rfl (.cons (by rw [Nat.add_zero, hz0]; rfl) (.cons rfl (.nil _))))))) ⟨Nat.le_of_lt hf, by assumption⟩ ?_
            clear hE0
            rintro k w2 ⟨hk, hE0⟩
            have hb1 := hb0 k hk
            have hp : 10 ^ k ≤ 10 ^ 19 := Nat.pow_le_pow_right (by omega) (by omega)
            by_cases hjl : f + k < l.length
            · have hmem : l.getD (f + k) 0 ∈ l := by
                have : l.getD (f + k) 0 = l[f + k] := by simp [List.getD, hjl]
                rw [this]; exact List.getElem_mem hjl
              obtain ⟨hd1, hd2⟩ := hT _ hmem
              have hs := val_snoc (l.take (f + k)) (l.getD (f + k) 0)
              rw [← take_get hjl] at hs
              have hb2 := hb0 (k + 1) hjl
              have hp2 : 10 ^ (k + 1) ≤ 10 ^ 19 := Nat.pow_le_pow_right (by omega) (by omega)
              have hs' : ((valB (l.take (f + (k + 1))) : Nat) : Int) = 10 * (valB (l.take (f + k)) : Int) + (((l.getD (f + k) 0).toNat - 48 : Nat) : Int) := by rw [← Nat.add_assoc, hs]; omega
              have hc : 0 ≤ (((l.getD (f + k) 0).toNat - 48 : Nat) : Int) ∧ (((l.getD (f + k) 0).toNat - 48 : Nat) : Int) ≤ 18446744073709551615 := by omega
              have hm1 : 0 ≤ 10 * (valB (l.take (f + k)) : Int) ∧ 10 * (valB (l.take (f + k)) : Int) ≤ 18446744073709551615 := by omega
              have hm2 : 0 ≤ 10 * (valB (l.take (f + k)) : Int) + (((l.getD (f + k) 0).toNat - 48 : Nat) : Int) ∧ 10 * (valB (l.take (f + k)) : Int) + (((l.getD (f + k) 0).toNat - 48 : Nat) : Int) ≤ 18446744073709551615 := by omega
              have hw : Value.int .u64 (IntKind.u64.wrap (IntKind.u64.wrap (10 * (valB (l.take (f + k)) : Int)) + IntKind.u64.wrap (((l.getD (f + k) 0).toNat - 48 : Nat) : Int))) = .int .u64 (valB (l.take (f + (k + 1))) : Int) := by
                rw [IntWalk.u64_in _ hc, IntWalk.u64_in _ hm1, IntWalk.u64_in _ hm2, hs']
              refine Cd.seq ?_
              refine Cd.seq ?_
              refine Cd.region ?_
              refine Seg.step rfl rfl (Yd.move rfl) ?_
              refine Seg.step rfl rfl (Yd.move rfl) ?_
              refine Seg.step rfl rfl (Yd.lenStr rfl rfl) ?_
              (refine Seg.step rfl rfl (Yd.lss rfl rfl) ?_)
              refine Seg.nil ?_
              refine At.then_ ?_
              refine Cd.condk rfl (fun h69 => ?_) (fun h69 => ?_)
              · refine Cd.skip ?_
                refine At.then_ ?_
                refine Cd.seq ?_
                refine Cd.block ?_
                refine Cd.region ?_
                refine Seg.step rfl rfl (Yd.move rfl) ?_
                (refine Seg.step rfl rfl (Yd.mul rfl rfl) ?_)
                refine Seg.step rfl rfl (Yd.move rfl) ?_
                refine Seg.step rfl rfl (Yd.move rfl) ?_
                refine Seg.step rfl rfl (Yd.indexStr rfl rfl rfl (NatOf.cast _) (by omega)) ?_
                (refine Seg.step rfl rfl (Yd.dgSub hd1 rfl rfl) ?_)
                refine Seg.step rfl rfl (Yd.convI rfl rfl rfl) ?_
                refine Seg.step rfl rfl (Yd.add rfl rfl) ?_
                refine Seg.step rfl rfl (Yd.assign rfl) ?_
                refine Seg.nil ?_
                refine At.blk ?_
                refine At.then_ ?_
                refine Cd.region ?_
                refine Seg.step rfl rfl (Yd.move rfl) ?_
                refine Seg.step rfl rfl (Yd.addI rfl rfl (by omega)) ?_
                refine Seg.step rfl rfl (Yd.assign rfl) ?_
                refine Seg.nil ?_
                exact At.round (k + 1) (.cons rfl (.cons rfl (.cons rfl (.cons rfl (.cons (congrArg some hw) (.cons rfl (.nil _))))))) ⟨hjl, hE0⟩ (Nat.sub_lt_sub_left hjl (Nat.lt_succ_self (f + k)))
              · exfalso; omega
            · have hjl' : l.take (f + k) = l := List.take_of_length_le (by omega)
              have hwm : IntKind.u64.wrap (most : Int) = most := IntWalk.u64_in _ (by omega)
              by_cases hv : valB l ≤ most
              · have hv' : ¬ (IntKind.u64.wrap (most : Int)) < (valB (l.take (f + k)) : Int) := by rw [hwm, hjl']; omega
                have hret : Value.tuple #[.int .i64 (IntKind.i64.wrap (valB (l.take (f + k)) : Int)), .int .i64 0] = .tuple #[.int .i64 (numB l most).1, .int .i64 (numB l most).2] := by
                  rw [num_ok hgood hv, hjl', IntWalk.i64_in _ (by omega)]
                refine Cd.seq ?_
                refine Cd.seq ?_
                refine Cd.region ?_
                refine Seg.step rfl rfl (Yd.move rfl) ?_
                refine Seg.step rfl rfl (Yd.move rfl) ?_
                refine Seg.step rfl rfl (Yd.lenStr rfl rfl) ?_
                refine Seg.step rfl rfl (Yd.lss rfl rfl) ?_
                refine Seg.nil ?_
                refine At.then_ ?_
                refine Cd.condk rfl (fun h69 => ?_) (fun h69 => ?_)
                · exfalso; omega
                · refine Cd.exit ?_
                  refine At.then_exit ?_
                  refine At.then_exit ?_
                  refine At.blk_same ?_
                  refine At.then_ ?_
                  refine Cd.seq ?_
                  refine Cd.seq ?_
                  refine Cd.region ?_
                  refine Seg.step rfl rfl (Yd.move rfl) ?_
                  refine Seg.step rfl rfl (Yd.move rfl) ?_
                  refine Seg.step rfl rfl (Yd.convI rfl rfl rfl) ?_
                  refine Seg.step rfl rfl (Yd.gtr rfl rfl) ?_
                  refine Seg.nil ?_
                  refine At.then_ ?_
                  refine Cd.condk rfl (fun h85 => ?_) (fun h85 => ?_)
                  · exfalso; omega
                  · refine Cd.skip ?_
                    refine At.then_ ?_
                    refine Cd.seq ?_
                    refine Cd.region ?_
                    refine Seg.step rfl rfl (Yd.move rfl) ?_
                    refine Seg.step rfl rfl (Yd.convI rfl rfl rfl) ?_
                    refine Seg.step rfl rfl (Yd.assign rfl) ?_
                    refine Seg.step rfl rfl (Yd.assign rfl) ?_
                    refine Seg.nil ?_
                    refine At.then_ ?_
                    refine Cd.ret ?_
                    exact At.ret Try.results23 (.tmp rfl (.tmp rfl .nil)) ⟨hret, by assumption⟩
              · have hv' : (IntKind.u64.wrap (most : Int)) < (valB (l.take (f + k)) : Int) := by rw [hwm, hjl']; omega
                have hret : Value.tuple #[.int .i64 0, .int .i64 4] = .tuple #[.int .i64 (numB l most).1, .int .i64 (numB l most).2] := by
                  rw [num_over hgood (by omega)]
                refine Cd.seq ?_
                refine Cd.seq ?_
                refine Cd.region ?_
                refine Seg.step rfl rfl (Yd.move rfl) ?_
                refine Seg.step rfl rfl (Yd.move rfl) ?_
                refine Seg.step rfl rfl (Yd.lenStr rfl rfl) ?_
                refine Seg.step rfl rfl (Yd.lss rfl rfl) ?_
                refine Seg.nil ?_
                refine At.then_ ?_
                refine Cd.condk rfl (fun h69 => ?_) (fun h69 => ?_)
                · exfalso; omega
                · refine Cd.exit ?_
                  refine At.then_exit ?_
                  refine At.then_exit ?_
                  refine At.blk_same ?_
                  refine At.then_ ?_
                  refine Cd.seq ?_
                  refine Cd.seq ?_
                  refine Cd.region ?_
                  refine Seg.step rfl rfl (Yd.move rfl) ?_
                  refine Seg.step rfl rfl (Yd.move rfl) ?_
                  refine Seg.step rfl rfl (Yd.convI rfl rfl rfl) ?_
                  refine Seg.step rfl rfl (Yd.gtr rfl rfl) ?_
                  refine Seg.nil ?_
                  refine At.then_ ?_
                  refine Cd.condk rfl (fun h85 => ?_) (fun h85 => ?_)
                  · refine Cd.seq ?_
                    refine Cd.region ?_
                    refine Seg.step rfl rfl (Yd.assign rfl) ?_
                    refine Seg.step rfl rfl (Yd.assign rfl) ?_
                    refine Seg.nil ?_
                    refine At.then_ ?_
                    refine Cd.ret ?_
                    refine At.then_ret ?_
                    exact At.ret Try.results23 (.tmp rfl (.tmp rfl .nil)) ⟨hret, by assumption⟩
                  · exfalso; omega
          · refine Cd.seq ?_
            refine Cd.seq ?_
            refine Cd.region ?_
            refine Seg.step rfl rfl (Yd.move rfl) ?_
            refine Seg.step rfl rfl (Yd.move rfl) ?_
            refine Seg.step rfl rfl (Yd.lenStr rfl rfl) ?_
            refine Seg.step rfl rfl (Yd.subI rfl rfl (by omega)) ?_
            refine Seg.step rfl rfl (Yd.lss rfl rfl) ?_
            refine Seg.step rfl rfl (Yd.move rfl) ?_
            refine Seg.gsplitp rfl rfl (fun h34 => ?_) (fun h34 => ?_)
            · exfalso; omega
            refine Seg.skip rfl rfl ?_
            refine Seg.skip rfl rfl ?_
            refine Seg.skip rfl rfl ?_
            refine Seg.skip rfl rfl ?_
            refine Seg.step rfl rfl (Yd.pickF rfl rfl) ?_
            refine Seg.nil ?_
            refine At.then_ ?_
            refine Cd.condF rfl ?_
            refine Cd.exit ?_
            refine At.then_exit ?_
            refine At.then_exit ?_
            refine At.blk_same ?_
            refine At.then_ ?_
            refine Cd.seq ?_
            refine Cd.seq ?_
            refine Cd.region ?_
            refine Seg.step rfl rfl (Yd.move rfl) ?_
            refine Seg.step rfl rfl (Yd.lenStr rfl rfl) ?_
            refine Seg.step rfl rfl (Yd.move rfl) ?_
            refine Seg.step rfl rfl (Yd.subI rfl rfl (by omega)) ?_
            refine Seg.step rfl rfl (Yd.gtr rfl rfl) ?_
            refine Seg.step rfl rfl (Yd.move rfl) ?_
            refine Seg.gsplitp rfl rfl (fun h58 => ?_) (fun h58 => ?_)
            · exfalso; omega
            refine Seg.step rfl rfl (Yd.move rfl) ?_
            refine Seg.step rfl rfl (Yd.lss rfl rfl) ?_
            refine Seg.step rfl rfl (Yd.pickF rfl rfl) ?_
            refine Seg.nil ?_
            refine At.then_ ?_
            refine Cd.condF rfl ?_
            refine Cd.skip ?_
            refine At.then_ ?_
            refine Cd.seq ?_
            refine Cd.region ?_
            refine Seg.step rfl rfl (Yd.assign rfl) ?_
            refine Seg.nil ?_
            refine At.then_ ?_
            refine Cd.seq ?_
            refine Cd.seq ?_
            refine Cd.region ?_
            refine Seg.step rfl rfl (Yd.move rfl) ?_
            refine Seg.step rfl rfl (Yd.assign rfl) ?_
            refine Seg.nil ?_
            refine At.then_ ?_
            refine Cd.block ?_
            refine Cd.loop (σ := Nat) (fun k => [(0, .string ⟨l.toArray⟩), (1, .int .i64 (most : Int)), (4, .int .i64 0), (5, .int .i64 0), (8, .int .u64 (valB (l.take (f + k)) : Int)), (9, .int .i64 ((f + k : Nat) : Int))])
              (fun k w' => f + k ≤ l.length ∧ Ext w w') (fun k => l.length - (f + k)) 0 (.cons rfl (.cons rfl (.cons rfl (.cons rfl (.cons (by rw [Nat.add_zero, hz0]; rfl) (.cons rfl (.nil _))))))) ⟨Nat.le_of_lt hf, by assumption⟩ ?_
            clear hE0
            rintro k w2 ⟨hk, hE0⟩
            have hb1 := hb0 k hk
            have hp : 10 ^ k ≤ 10 ^ 19 := Nat.pow_le_pow_right (by omega) (by omega)
            by_cases hjl : f + k < l.length
            · have hmem : l.getD (f + k) 0 ∈ l := by
                have : l.getD (f + k) 0 = l[f + k] := by simp [List.getD, hjl]
                rw [this]; exact List.getElem_mem hjl
              obtain ⟨hd1, hd2⟩ := hT _ hmem
              have hs := val_snoc (l.take (f + k)) (l.getD (f + k) 0)
              rw [← take_get hjl] at hs
              have hb2 := hb0 (k + 1) hjl
              have hp2 : 10 ^ (k + 1) ≤ 10 ^ 19 := Nat.pow_le_pow_right (by omega) (by omega)
              have hs' : ((valB (l.take (f + (k + 1))) : Nat) : Int) = 10 * (valB (l.take (f + k)) : Int) + (((l.getD (f + k) 0).toNat - 48 : Nat) : Int) := by rw [← Nat.add_assoc, hs]; omega
              have hc : 0 ≤ (((l.getD (f + k) 0).toNat - 48 : Nat) : Int) ∧ (((l.getD (f + k) 0).toNat - 48 : Nat) : Int) ≤ 18446744073709551615 := by omega
              have hm1 : 0 ≤ 10 * (valB (l.take (f + k)) : Int) ∧ 10 * (valB (l.take (f + k)) : Int) ≤ 18446744073709551615 := by omega
              have hm2 : 0 ≤ 10 * (valB (l.take (f + k)) : Int) + (((l.getD (f + k) 0).toNat - 48 : Nat) : Int) ∧ 10 * (valB (l.take (f + k)) : Int) + (((l.getD (f + k) 0).toNat - 48 : Nat) : Int) ≤ 18446744073709551615 := by omega
              have hw : Value.int .u64 (IntKind.u64.wrap (IntKind.u64.wrap (10 * (valB (l.take (f + k)) : Int)) + IntKind.u64.wrap (((l.getD (f + k) 0).toNat - 48 : Nat) : Int))) = .int .u64 (valB (l.take (f + (k + 1))) : Int) := by
                rw [IntWalk.u64_in _ hc, IntWalk.u64_in _ hm1, IntWalk.u64_in _ hm2, hs']
              refine Cd.seq ?_
              refine Cd.seq ?_
              refine Cd.region ?_
              refine Seg.step rfl rfl (Yd.move rfl) ?_
              refine Seg.step rfl rfl (Yd.move rfl) ?_
              refine Seg.step rfl rfl (Yd.lenStr rfl rfl) ?_
              (refine Seg.step rfl rfl (Yd.lss rfl rfl) ?_)
              refine Seg.nil ?_
              refine At.then_ ?_
              refine Cd.condk rfl (fun h68 => ?_) (fun h68 => ?_)
              · refine Cd.skip ?_
                refine At.then_ ?_
                refine Cd.seq ?_
                refine Cd.block ?_
                refine Cd.region ?_
                refine Seg.step rfl rfl (Yd.move rfl) ?_
                (refine Seg.step rfl rfl (Yd.mul rfl rfl) ?_)
                refine Seg.step rfl rfl (Yd.move rfl) ?_
                refine Seg.step rfl rfl (Yd.move rfl) ?_
                refine Seg.step rfl rfl (Yd.indexStr rfl rfl rfl (NatOf.cast _) (by omega)) ?_
                (refine Seg.step rfl rfl (Yd.dgSub hd1 rfl rfl) ?_)
                refine Seg.step rfl rfl (Yd.convI rfl rfl rfl) ?_
                refine Seg.step rfl rfl (Yd.add rfl rfl) ?_
                refine Seg.step rfl rfl (Yd.assign rfl) ?_
                refine Seg.nil ?_
                refine At.blk ?_
                refine At.then_ ?_
                refine Cd.region ?_
                refine Seg.step rfl rfl (Yd.move rfl) ?_
                refine Seg.step rfl rfl (Yd.addI rfl rfl (by omega)) ?_
                refine Seg.step rfl rfl (Yd.assign rfl) ?_
                refine Seg.nil ?_
                exact At.round (k + 1) (.cons rfl (.cons rfl (.cons rfl (.cons rfl (.cons (congrArg some hw) (.cons rfl (.nil _))))))) ⟨hjl, hE0⟩ (Nat.sub_lt_sub_left hjl (Nat.lt_succ_self (f + k)))
              · exfalso; omega
            · have hjl' : l.take (f + k) = l := List.take_of_length_le (by omega)
              have hwm : IntKind.u64.wrap (most : Int) = most := IntWalk.u64_in _ (by omega)
              by_cases hv : valB l ≤ most
              · have hv' : ¬ (IntKind.u64.wrap (most : Int)) < (valB (l.take (f + k)) : Int) := by rw [hwm, hjl']; omega
                have hret : Value.tuple #[.int .i64 (IntKind.i64.wrap (valB (l.take (f + k)) : Int)), .int .i64 0] = .tuple #[.int .i64 (numB l most).1, .int .i64 (numB l most).2] := by
                  rw [num_ok hgood hv, hjl', IntWalk.i64_in _ (by omega)]
                refine Cd.seq ?_
                refine Cd.seq ?_
                refine Cd.region ?_
                refine Seg.step rfl rfl (Yd.move rfl) ?_
                refine Seg.step rfl rfl (Yd.move rfl) ?_
                refine Seg.step rfl rfl (Yd.lenStr rfl rfl) ?_
                refine Seg.step rfl rfl (Yd.lss rfl rfl) ?_
                refine Seg.nil ?_
                refine At.then_ ?_
                refine Cd.condk rfl (fun h68 => ?_) (fun h68 => ?_)
                · exfalso; omega
                · refine Cd.exit ?_
                  refine At.then_exit ?_
                  refine At.then_exit ?_
                  refine At.blk_same ?_
                  refine At.then_ ?_
                  refine Cd.seq ?_
                  refine Cd.seq ?_
                  refine Cd.region ?_
                  refine Seg.step rfl rfl (Yd.move rfl) ?_
                  refine Seg.step rfl rfl (Yd.move rfl) ?_
                  refine Seg.step rfl rfl (Yd.convI rfl rfl rfl) ?_
                  refine Seg.step rfl rfl (Yd.gtr rfl rfl) ?_
                  refine Seg.nil ?_
                  refine At.then_ ?_
                  refine Cd.condk rfl (fun h84 => ?_) (fun h84 => ?_)
                  · exfalso; omega
                  · refine Cd.skip ?_
                    refine At.then_ ?_
                    refine Cd.seq ?_
                    refine Cd.region ?_
                    refine Seg.step rfl rfl (Yd.move rfl) ?_
                    refine Seg.step rfl rfl (Yd.convI rfl rfl rfl) ?_
                    refine Seg.step rfl rfl (Yd.assign rfl) ?_
                    refine Seg.step rfl rfl (Yd.assign rfl) ?_
                    refine Seg.nil ?_
                    refine At.then_ ?_
                    refine Cd.ret ?_
                    exact At.ret Try.results23 (.tmp rfl (.tmp rfl .nil)) ⟨hret, by assumption⟩
              · have hv' : (IntKind.u64.wrap (most : Int)) < (valB (l.take (f + k)) : Int) := by rw [hwm, hjl']; omega
                have hret : Value.tuple #[.int .i64 0, .int .i64 4] = .tuple #[.int .i64 (numB l most).1, .int .i64 (numB l most).2] := by
                  rw [num_over hgood (by omega)]
                refine Cd.seq ?_
                refine Cd.seq ?_
                refine Cd.region ?_
                refine Seg.step rfl rfl (Yd.move rfl) ?_
                refine Seg.step rfl rfl (Yd.move rfl) ?_
                refine Seg.step rfl rfl (Yd.lenStr rfl rfl) ?_
                refine Seg.step rfl rfl (Yd.lss rfl rfl) ?_
                refine Seg.nil ?_
                refine At.then_ ?_
                refine Cd.condk rfl (fun h68 => ?_) (fun h68 => ?_)
                · exfalso; omega
                · refine Cd.exit ?_
                  refine At.then_exit ?_
                  refine At.then_exit ?_
                  refine At.blk_same ?_
                  refine At.then_ ?_
                  refine Cd.seq ?_
                  refine Cd.seq ?_
                  refine Cd.region ?_
                  refine Seg.step rfl rfl (Yd.move rfl) ?_
                  refine Seg.step rfl rfl (Yd.move rfl) ?_
                  refine Seg.step rfl rfl (Yd.convI rfl rfl rfl) ?_
                  refine Seg.step rfl rfl (Yd.gtr rfl rfl) ?_
                  refine Seg.nil ?_
                  refine At.then_ ?_
                  refine Cd.condk rfl (fun h84 => ?_) (fun h84 => ?_)
                  · refine Cd.seq ?_
                    refine Cd.region ?_
                    refine Seg.step rfl rfl (Yd.assign rfl) ?_
                    refine Seg.step rfl rfl (Yd.assign rfl) ?_
                    refine Seg.nil ?_
                    refine At.then_ ?_
                    refine Cd.ret ?_
                    refine At.then_ret ?_
                    exact At.ret Try.results23 (.tmp rfl (.tmp rfl .nil)) ⟨hret, by assumption⟩
                  · exfalso; omega
end Go.Proofs.Ytbmgigbedmgfpaa
