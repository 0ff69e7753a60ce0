/- Numbers in digits. -/
import Derived.Test.YtbmgigbedmgfpaaLow
namespace Go.Proofs.Ytbmgigbedmgfpaa
open Go Go.RowKit
def isDg (b : UInt8) : Prop := 48 ≤ b.toNat ∧ b.toNat ≤ 57
instance (b : UInt8) : Decidable (isDg b) := by unfold isDg; infer_instance
def valB (l : List UInt8) : Nat := l.foldl (fun n b => 10 * n + (b.toNat - 48)) 0
theorem val_snoc (l : List UInt8) (b : UInt8) : valB (l ++ [b]) = 10 * valB l + (b.toNat - 48) := by simp [valB]
theorem val_le : ∀ (m l : List UInt8), valB l ≤ valB (l ++ m)
  | [], l => by simp
  | b :: m, l => by
    have h := val_le m (l ++ [b])
    have h1 := val_snoc l b
    have e : l ++ b :: m = l ++ [b] ++ m := by simp
    rw [e]
    omega
/-- The number that digits are, if it is no greater than most. -/
def numB (l : List UInt8) (most : Nat) : Int × Int := if l = [] ∨ ¬ (∀ b ∈ l, isDg b) then (0, 5) else if valB l ≤ most then ((valB l : Int), 0) else (0, 4)
theorem num_bad {l : List UInt8} {most : Nat} (h : l = [] ∨ ¬ (∀ b ∈ l, isDg b)) : numB l most = (0, 5) := by unfold numB; rw [if_pos h]
theorem num_over {l : List UInt8} {most : Nat} (h : ¬ (l = [] ∨ ¬ (∀ b ∈ l, isDg b))) (h2 : most < valB l) : numB l most = (0, 4) := by unfold numB; rw [if_neg h, if_neg (by omega)]
theorem num_ok {l : List UInt8} {most : Nat} (h : ¬ (l = [] ∨ ¬ (∀ b ∈ l, isDg b))) (h2 : valB l ≤ most) : numB l most = ((valB l : Int), 0) := by unfold numB; rw [if_neg h, if_pos h2]
section
variable {P : Program} {n : Nat} {fr : Fr} {w : World} {T U U' : TypeId} {x y : Operand}
theorem Yd.dgSub {b : UInt8} (hb : 48 ≤ b.toNat) (hx : Fr.ev fr x = some (.int .u8 b.toNat)) (hy : Fr.ev fr y = some (.int .u8 48)) : Yd P n (.binOp .sub U x y U') T fr w (.int .u8 ((b.toNat - 48 : Nat) : Int)) w := by
  have := Yd.sub (P := P) (n := n) (w := w) (T := T) (U := U) (U' := U') hx hy
  rwa [u8_id (by omega) (by have := byte_lt b; omega), show (b.toNat : Int) - 48 = ((b.toNat - 48 : Nat) : Int) by omega] at this
theorem Yd.quoN {i j : Int} (h0 : 0 ≤ i) (h1 : i ≤ 1000000000000) (h2 : 0 < j) (hx : Fr.ev fr x = some (.int .i64 i)) (hy : Fr.ev fr y = some (.int .i64 j)) : Yd P n (.binOp .quo U x y U') T fr w (.int .i64 (i / j)) w := by
  have := Yd.quo (P := P) (n := n) (w := w) (T := T) (U := U) (U' := U') hx hy (by omega)
  rw [Int.tdiv_eq_ediv_of_nonneg h0] at this
  have hb : 0 ≤ i / j := Int.ediv_nonneg h0 (Int.le_of_lt h2)
  have hc : i / j ≤ i := Int.ediv_le_self _ h0
  rwa [IntWalk.i64_in _ ⟨by omega, by omega⟩] at this
theorem Yd.mulI {i j : Int} (h : -9223372036854775808 ≤ i * j ∧ i * j ≤ 9223372036854775807) (hx : Fr.ev fr x = some (.int .i64 i)) (hy : Fr.ev fr y = some (.int .i64 j)) : Yd P n (.binOp .mul U x y U') T fr w (.int .i64 (i * j)) w := by
  have := Yd.mul (P := P) (n := n) (w := w) (T := T) (U := U) (U' := U') hx hy
  rwa [IntWalk.i64_in _ h] at this
end
theorem number_any (l : List UInt8) (most : Nat) (w : World) (hl : l.length ≤ 1000000) (hm : most ≤ 1000000) : Ret Try.prog 35 #[.string ⟨l.toArray⟩, .int .i64 (most : Int)] w fun v w' => v = .tuple #[.int .i64 (numB l most).1, .int .i64 (numB l most).2] ∧ Ext w w' := by
  have hE0 := Ext.refl w
  refine Ret.body Try.func35 rfl Try.ntmps35 rfl ?_
  by_cases h0 : l = []
  · rw [num_bad (.inl h0)]
    refine Cd.seq ?_
    refine Cd.region ?_
    refine Seg.step rfl rfl (Yd.assign rfl) ?_
    refine Seg.step rfl rfl (Yd.assign rfl) ?_
    refine Seg.nil ?_
    refine At.then_ ?_
    refine Cd.seq ?_
    refine Cd.seq ?_
    refine Cd.region ?_
    refine Seg.step rfl rfl (Yd.move rfl) ?_
    refine Seg.step rfl rfl (Yd.eqlS rfl rfl) ?_
    refine Seg.nil ?_
    refine At.then_ ?_
    refine Cd.condk rfl (fun h14 => ?_) (fun h14 => ?_)
    · refine Cd.seq ?_
      refine Cd.region ?_
      refine Seg.step rfl rfl (Yd.assign rfl) ?_
      refine Seg.step rfl rfl (Yd.assign rfl) ?_
      refine Seg.nil ?_
      refine At.then_ ?_
      refine Cd.ret ?_
      refine At.then_ret ?_
      exact At.ret Try.results35 (.tmp rfl (.tmp rfl .nil)) ⟨rfl, by assumption⟩
    · contradiction
  · refine Cd.seq ?_
    refine Cd.region ?_
    refine Seg.step rfl rfl (Yd.assign rfl) ?_
    refine Seg.step rfl rfl (Yd.assign rfl) ?_
    refine Seg.nil ?_
    refine At.then_ ?_
    refine Cd.seq ?_
    refine Cd.seq ?_
    refine Cd.region ?_
    refine Seg.step rfl rfl (Yd.move rfl) ?_
    refine Seg.step rfl rfl (Yd.eqlS rfl rfl) ?_
    refine Seg.nil ?_
    refine At.then_ ?_
    refine Cd.condk rfl (fun h14 => ?_) (fun h14 => ?_)
    · contradiction
    refine Cd.skip ?_
    refine At.then_ ?_
    refine Cd.seq ?_
    refine Cd.seq ?_
    refine Cd.region ?_
    refine Seg.step rfl rfl (Yd.move rfl) ?_
    refine Seg.step rfl rfl (Yd.lenStr rfl rfl) ?_
    refine Seg.step rfl rfl (Yd.move rfl) ?_
    refine Seg.nil ?_
    refine At.then_ ?_
    refine Cd.block ?_
    refine Cd.loop (σ := Nat) (fun i => [(0, .string ⟨l.toArray⟩), (1, .int .i64 (most : Int)), (4, .int .i64 0), (5, .int .i64 0), (13, .int .i64 (l.length : Int)), (14, .int .i64 (i : Int))])
      (fun i w' => i ≤ l.length ∧ (∀ b ∈ l.take i, isDg b) ∧ Ext w w') (fun i => l.length - i) 0 (.cons rfl (.cons rfl (.cons rfl (.cons rfl (.cons rfl (.cons rfl (.nil _))))))) ⟨Nat.zero_le _, fun b h => by simp at h, by assumption⟩ ?_
    clear hE0
    rintro i w0 ⟨hi, hT, hE0⟩
    by_cases hlt : i < l.length
    · have hmem : l.getD i 0 ∈ l := by
        have : l.getD i 0 = l[i] := by simp [List.getD, hlt]
        rw [this]; exact List.getElem_mem hlt
      by_cases hd : isDg (l.getD i 0)
      · have hd1 : (48 : Int) ≤ (l.getD i 0).toNat := by have := hd.1; omega
        have hd2 : ((l.getD i 0).toNat : Int) ≤ 57 := by have := hd.2; omega
        have hT' : ∀ b ∈ l.take (i + 1), isDg b := fun b hb => by
          rw [take_get hlt] at hb
          rcases List.mem_append.1 hb with hb | hb
          · exact hT b hb
          · rw [List.mem_singleton.1 hb]; exact hd
        refine Cd.seq ?_
        refine Cd.region ?_
        refine Seg.step rfl rfl (Yd.lss rfl rfl) ?_
        refine Seg.nil ?_
        refine At.then_ ?_
        refine Cd.seq ?_
        refine Cd.condk rfl (fun h21 => ?_) (fun h21 => ?_)
        · refine Cd.skip ?_
          refine At.then_ ?_
          refine Cd.seq ?_
          refine Cd.block ?_
          refine Cd.seq ?_
          refine Cd.region ?_
          refine Seg.step rfl rfl (Yd.move rfl) ?_
          refine Seg.step rfl rfl (Yd.assign rfl) ?_
          refine Seg.nil ?_
          refine At.then_ ?_
          refine Cd.seq ?_
          refine Cd.region ?_
          refine Seg.step rfl rfl (Yd.move rfl) ?_
          refine Seg.step rfl rfl (Yd.move rfl) ?_
          refine Seg.step rfl rfl (Yd.indexStr rfl rfl rfl (NatOf.cast _) (by omega)) ?_
          refine Seg.step rfl rfl (Yd.lss rfl rfl) ?_
          refine Seg.step rfl rfl (Yd.move rfl) ?_
          refine Seg.gsplitp rfl rfl (fun h40 => ?_) (fun h40 => ?_)
          · exfalso; omega
          · refine Seg.step rfl rfl (Yd.move rfl) ?_
            refine Seg.step rfl rfl (Yd.move rfl) ?_
            refine Seg.step rfl rfl (Yd.indexStr rfl rfl rfl (NatOf.cast _) (by omega)) ?_
            refine Seg.step rfl rfl (Yd.gtr rfl rfl) ?_
            refine Seg.step rfl rfl (Yd.pickF rfl rfl) ?_
            refine Seg.nil ?_
            refine At.then_ ?_
            refine Cd.condk rfl (fun h49 => ?_) (fun h49 => ?_)
            · exfalso; omega
            · refine Cd.skip ?_
              refine At.blk ?_
              refine At.then_ ?_
              refine Cd.region ?_
              refine Seg.step rfl rfl (Yd.addI rfl rfl (by omega)) ?_
              refine Seg.step rfl rfl (Yd.move rfl) ?_
              refine Seg.nil ?_
              exact At.round (i + 1) (.cons rfl (.cons rfl (.cons rfl (.cons rfl (.cons rfl (.cons rfl (.nil _))))))) ⟨hlt, hT', hE0⟩ (Nat.sub_lt_sub_left hlt (Nat.lt_succ_self i))
        · exfalso; omega
      · have hbad := num_bad (l := l) (most := most) (.inr (fun h => hd (h _ hmem)))
        have hd' : ¬ (48 ≤ (l.getD i 0).toNat ∧ (l.getD i 0).toNat ≤ 57) := hd
        rw [hbad]
        refine Cd.seq ?_
        refine Cd.region ?_
        refine Seg.step rfl rfl (Yd.lss rfl rfl) ?_
        refine Seg.nil ?_
        refine At.then_ ?_
        refine Cd.seq ?_
        refine Cd.condk rfl (fun h21 => ?_) (fun h21 => ?_)
        · refine Cd.skip ?_
          refine At.then_ ?_
          refine Cd.seq ?_
          refine Cd.block ?_
          refine Cd.seq ?_
          refine Cd.region ?_
          refine Seg.step rfl rfl (Yd.move rfl) ?_
          refine Seg.step rfl rfl (Yd.assign rfl) ?_
          refine Seg.nil ?_
          refine At.then_ ?_
          refine Cd.seq ?_
          refine Cd.region ?_
          refine Seg.step rfl rfl (Yd.move rfl) ?_
          refine Seg.step rfl rfl (Yd.move rfl) ?_
          refine Seg.step rfl rfl (Yd.indexStr rfl rfl rfl (NatOf.cast _) (by omega)) ?_
          refine Seg.step rfl rfl (Yd.lss rfl rfl) ?_
          refine Seg.step rfl rfl (Yd.move rfl) ?_
          refine Seg.gsplitp rfl rfl (fun h40 => ?_) (fun h40 => ?_)
          · refine Seg.skip rfl rfl ?_
            refine Seg.skip rfl rfl ?_
            refine Seg.skip rfl rfl ?_
            refine Seg.skip rfl rfl ?_
            refine Seg.step rfl rfl (Yd.pickT rfl rfl) ?_
            refine Seg.nil ?_
            refine At.then_ ?_
            refine Cd.condT rfl ?_
            refine Cd.seq ?_
            refine Cd.region ?_
            refine Seg.step rfl rfl (Yd.assign rfl) ?_
            refine Seg.step rfl rfl (Yd.assign rfl) ?_
            refine Seg.nil ?_
            refine At.then_ ?_
            refine Cd.ret ?_
            refine At.blk_ret ?_
            refine At.then_ret ?_
            refine At.then_ret ?_
            refine At.blk_ret ?_
            refine At.then_ret ?_
            exact At.ret Try.results35 (.tmp rfl (.tmp rfl .nil)) ⟨rfl, by assumption⟩
          · refine Seg.step rfl rfl (Yd.move rfl) ?_
            refine Seg.step rfl rfl (Yd.move rfl) ?_
            refine Seg.step rfl rfl (Yd.indexStr rfl rfl rfl (NatOf.cast _) (by omega)) ?_
            refine Seg.step rfl rfl (Yd.gtr rfl rfl) ?_
            refine Seg.step rfl rfl (Yd.pickF rfl rfl) ?_
            refine Seg.nil ?_
            refine At.then_ ?_
            refine Cd.condk rfl (fun h71 => ?_) (fun h71 => ?_)
            · refine Cd.seq ?_
              refine Cd.region ?_
              refine Seg.step rfl rfl (Yd.assign rfl) ?_
              refine Seg.step rfl rfl (Yd.assign rfl) ?_
              refine Seg.nil ?_
              refine At.then_ ?_
              refine Cd.ret ?_
              refine At.blk_ret ?_
              refine At.then_ret ?_
              refine At.then_ret ?_
              refine At.blk_ret ?_
              refine At.then_ret ?_
              exact At.ret Try.results35 (.tmp rfl (.tmp rfl .nil)) ⟨rfl, by assumption⟩
            · exfalso; omega
        · exfalso; omega
    · have hil : l.take i = l := List.take_of_length_le (by omega)
      rw [hil] at hT
      have hgood : ¬ (l = [] ∨ ¬ (∀ b ∈ l, isDg b)) := fun h => h.elim h0 (fun h => h hT)
      refine Cd.seq ?_
      refine Cd.region ?_
      refine Seg.step rfl rfl (Yd.lss rfl rfl) ?_
      refine Seg.nil ?_
      refine At.then_ ?_
      refine Cd.seq ?_
      refine Cd.condk rfl (fun h21 => ?_) (fun h21 => ?_)
      · exfalso; omega
      refine Cd.exit ?_
      refine At.then_exit ?_
      refine At.then_exit ?_
      refine At.blk_same ?_
      refine At.then_ ?_
      refine Cd.seq ?_
      refine Cd.region ?_
      refine Seg.step rfl rfl (Yd.assign rfl) ?_
      refine Seg.nil ?_
      refine At.then_ ?_
      refine Cd.seq ?_
      refine Cd.seq ?_
      refine Cd.region ?_
      refine Seg.step rfl rfl (Yd.move rfl) ?_
      refine Seg.step rfl rfl (Yd.lenStr rfl rfl) ?_
      refine Seg.step rfl rfl (Yd.move rfl) ?_
      refine Seg.nil ?_
      refine At.then_ ?_
      refine Cd.block ?_
      refine Cd.loop (σ := Nat) (fun i => [(0, .string ⟨l.toArray⟩), (1, .int .i64 (most : Int)), (7, .int .i64 (valB (l.take i) : Int)), (29, .int .i64 (l.length : Int)), (30, .int .i64 (i : Int))])
        (fun i w' => i ≤ l.length ∧ valB (l.take i) ≤ most ∧ Ext w w') (fun i => l.length - i) 0 (.cons rfl (.cons rfl (.cons rfl (.cons rfl (.cons rfl (.nil _)))))) ⟨Nat.zero_le _, Nat.zero_le _, by assumption⟩ ?_
      clear hE0
      rintro j w1 ⟨hj, hV, hE0⟩
      by_cases hjl : j < l.length
      · have hmem : l.getD j 0 ∈ l := by
          have : l.getD j 0 = l[j] := by simp [List.getD, hjl]
          rw [this]; exact List.getElem_mem hjl
        obtain ⟨hd1, hd2⟩ := hT _ hmem
        have hs := val_snoc (l.take j) (l.getD j 0)
        rw [← take_get hjl] at hs
        have hs' : ((valB (l.take (j + 1)) : Nat) : Int) = 10 * (valB (l.take j) : Int) + (((l.getD j 0).toNat - 48 : Nat) : Int) := by omega
        have hc : -9223372036854775808 ≤ (((l.getD j 0).toNat - 48 : Nat) : Int) ∧ (((l.getD j 0).toNat - 48 : Nat) : Int) ≤ 9223372036854775807 := by omega
        by_cases hov : valB (l.take (j + 1)) ≤ most
        · refine Cd.seq ?_
          refine Cd.region ?_
          refine Seg.step rfl rfl (Yd.lss rfl rfl) ?_
          refine Seg.nil ?_
          refine At.then_ ?_
          refine Cd.seq ?_
          refine Cd.condk rfl (fun h28 => ?_) (fun h28 => ?_)
          · refine Cd.skip ?_
            refine At.then_ ?_
            refine Cd.seq ?_
            refine Cd.block ?_
            refine Cd.seq ?_
            refine Cd.region ?_
            refine Seg.step rfl rfl (Yd.move rfl) ?_
            refine Seg.step rfl rfl (Yd.assign rfl) ?_
            refine Seg.nil ?_
            refine At.then_ ?_
            refine Cd.seq ?_
            refine Cd.region ?_
            refine Seg.step rfl rfl (Yd.move rfl) ?_
            refine Seg.step rfl rfl (Yd.move rfl) ?_
            refine Seg.step rfl rfl (Yd.indexStr rfl rfl rfl (NatOf.cast _) (by omega)) ?_
            (refine Seg.step rfl rfl (Yd.dgSub hd1 rfl rfl) ?_)
            (refine Seg.step rfl rfl (Yd.convN rfl rfl rfl (IntWalk.i64_in _ hc)) ?_)
            refine Seg.step rfl rfl (Yd.assign rfl) ?_
            refine Seg.nil ?_
            refine At.then_ ?_
            refine Cd.seq ?_
            refine Cd.seq ?_
            refine Cd.region ?_
            refine Seg.step rfl rfl (Yd.move rfl) ?_
            refine Seg.step rfl rfl (Yd.move rfl) ?_
            refine Seg.step rfl rfl (Yd.gtr rfl rfl) ?_
            refine Seg.step rfl rfl (Yd.move rfl) ?_
            refine Seg.gsplitp rfl rfl (fun h57 => ?_) (fun h57 => ?_)
            · exfalso; omega
            · refine Seg.step rfl rfl (Yd.move rfl) ?_
              refine Seg.step rfl rfl (Yd.move rfl) ?_
              refine Seg.step rfl rfl (Yd.move rfl) ?_
              refine Seg.step rfl rfl (Yd.subI rfl rfl (by omega)) ?_
              (refine Seg.step rfl rfl (Yd.quoN (by omega) (by omega) (by omega) rfl rfl) ?_)
              refine Seg.step rfl rfl (Yd.gtr rfl rfl) ?_
              refine Seg.step rfl rfl (Yd.pickF rfl rfl) ?_
              refine Seg.nil ?_
              refine At.then_ ?_
              refine Cd.condk rfl (fun h68 => ?_) (fun h68 => ?_)
              · exfalso; omega
              · refine Cd.skip ?_
                refine At.then_ ?_
                refine Cd.region ?_
                refine Seg.step rfl rfl (Yd.move rfl) ?_
                (refine Seg.step rfl rfl (Yd.mulI (by omega) rfl rfl) ?_)
                refine Seg.step rfl rfl (Yd.move rfl) ?_
                refine Seg.step rfl rfl (Yd.addI rfl rfl (by omega)) ?_
                refine Seg.step rfl rfl (Yd.assign rfl) ?_
                refine Seg.nil ?_
                refine At.blk ?_
                refine At.then_ ?_
                refine Cd.region ?_
                refine Seg.step rfl rfl (Yd.addI rfl rfl (by omega)) ?_
                refine Seg.step rfl rfl (Yd.move rfl) ?_
                refine Seg.nil ?_
                exact At.round (j + 1) (.cons rfl (.cons rfl (.cons (by rw [hs']; rfl) (.cons rfl (.cons rfl (.nil _)))))) ⟨hjl, hov, hE0⟩ (Nat.sub_lt_sub_left hjl (Nat.lt_succ_self j))
          · exfalso; omega
        · have hbad := num_over hgood (Nat.lt_of_lt_of_le (Nat.lt_of_not_le hov) (by have := val_le (l.drop (j + 1)) (l.take (j + 1)); rwa [List.take_append_drop] at this))
          rw [hbad]
          refine Cd.seq ?_
          refine Cd.region ?_
          refine Seg.step rfl rfl (Yd.lss rfl rfl) ?_
          refine Seg.nil ?_
          refine At.then_ ?_
          refine Cd.seq ?_
          refine Cd.condk rfl (fun h28 => ?_) (fun h28 => ?_)
          · refine Cd.skip ?_
            refine At.then_ ?_
            refine Cd.seq ?_
            refine Cd.block ?_
            refine Cd.seq ?_
            refine Cd.region ?_
            refine Seg.step rfl rfl (Yd.move rfl) ?_
            refine Seg.step rfl rfl (Yd.assign rfl) ?_
            refine Seg.nil ?_
            refine At.then_ ?_
            refine Cd.seq ?_
            refine Cd.region ?_
            refine Seg.step rfl rfl (Yd.move rfl) ?_
            refine Seg.step rfl rfl (Yd.move rfl) ?_
            refine Seg.step rfl rfl (Yd.indexStr rfl rfl rfl (NatOf.cast _) (by omega)) ?_
            (refine Seg.step rfl rfl (Yd.dgSub hd1 rfl rfl) ?_)
            (refine Seg.step rfl rfl (Yd.convN rfl rfl rfl (IntWalk.i64_in _ hc)) ?_)
            refine Seg.step rfl rfl (Yd.assign rfl) ?_
            refine Seg.nil ?_
            refine At.then_ ?_
            refine Cd.seq ?_
            refine Cd.seq ?_
            refine Cd.region ?_
            refine Seg.step rfl rfl (Yd.move rfl) ?_
            refine Seg.step rfl rfl (Yd.move rfl) ?_
            refine Seg.step rfl rfl (Yd.gtr rfl rfl) ?_
            refine Seg.step rfl rfl (Yd.move rfl) ?_
            refine Seg.gsplitp rfl rfl (fun h57 => ?_) (fun h57 => ?_)
            · refine Seg.skip rfl rfl ?_
              refine Seg.skip rfl rfl ?_
              refine Seg.skip rfl rfl ?_
              refine Seg.skip rfl rfl ?_
              refine Seg.skip rfl rfl ?_
              refine Seg.skip rfl rfl ?_
              refine Seg.step rfl rfl (Yd.pickT rfl rfl) ?_
              refine Seg.nil ?_
              refine At.then_ ?_
              refine Cd.condT rfl ?_
              refine Cd.seq ?_
              refine Cd.region ?_
              refine Seg.step rfl rfl (Yd.assign rfl) ?_
              refine Seg.step rfl rfl (Yd.assign rfl) ?_
              refine Seg.nil ?_
              refine At.then_ ?_
              refine Cd.ret ?_
              refine At.then_ret ?_
              refine At.blk_ret ?_
              refine At.then_ret ?_
              refine At.then_ret ?_
              refine At.blk_ret ?_
              refine At.then_ret ?_
              exact At.ret Try.results35 (.tmp rfl (.tmp rfl .nil)) ⟨rfl, by assumption⟩
            · refine Seg.step rfl rfl (Yd.move rfl) ?_
              refine Seg.step rfl rfl (Yd.move rfl) ?_
              refine Seg.step rfl rfl (Yd.move rfl) ?_
              refine Seg.step rfl rfl (Yd.subI rfl rfl (by omega)) ?_
              (refine Seg.step rfl rfl (Yd.quoN (by omega) (by omega) (by omega) rfl rfl) ?_)
              refine Seg.step rfl rfl (Yd.gtr rfl rfl) ?_
              refine Seg.step rfl rfl (Yd.pickF rfl rfl) ?_
              refine Seg.nil ?_
              refine At.then_ ?_
              refine Cd.condk rfl (fun h93 => ?_) (fun h93 => ?_)
              · refine Cd.seq ?_
                refine Cd.region ?_
                refine Seg.step rfl rfl (Yd.assign rfl) ?_
                refine Seg.step rfl rfl (Yd.assign rfl) ?_
                refine Seg.nil ?_
                refine At.then_ ?_
                refine Cd.ret ?_
                refine At.then_ret ?_
                refine At.blk_ret ?_
                refine At.then_ret ?_
                refine At.then_ret ?_
                refine At.blk_ret ?_
                refine At.then_ret ?_
                exact At.ret Try.results35 (.tmp rfl (.tmp rfl .nil)) ⟨rfl, by assumption⟩
              · exfalso; omega
          · exfalso; omega
      · have hjl' : l.take j = l := List.take_of_length_le (by omega)
        rw [hjl'] at hV ⊢
        have hfin := num_ok hgood hV
        rw [hfin]
        refine Cd.seq ?_
        refine Cd.region ?_
        refine Seg.step rfl rfl (Yd.lss rfl rfl) ?_
        refine Seg.nil ?_
        refine At.then_ ?_
        refine Cd.seq ?_
        refine Cd.condk rfl (fun h28 => ?_) (fun h28 => ?_)
        · exfalso; omega
        · refine Cd.exit ?_
          refine At.then_exit ?_
          refine At.then_exit ?_
          refine At.blk_same ?_
          refine At.then_ ?_
          refine Cd.seq ?_
          refine Cd.region ?_
          refine Seg.step rfl rfl (Yd.move rfl) ?_
          refine Seg.step rfl rfl (Yd.assign rfl) ?_
          refine Seg.step rfl rfl (Yd.assign rfl) ?_
          refine Seg.nil ?_
          refine At.then_ ?_
          refine Cd.ret ?_
          exact At.ret Try.results35 (.tmp rfl (.tmp rfl .nil)) ⟨rfl, by assumption⟩
end Go.Proofs.Ytbmgigbedmgfpaa
