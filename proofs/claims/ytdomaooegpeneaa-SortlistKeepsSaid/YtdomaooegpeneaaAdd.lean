/- How the program counts the like bits of addresses. -/
import Derived.Test.YtdomaooegpeneaaAdc
namespace Go.Proofs.Ytdomaooegpeneaa
open Go Go.RowKit
def len8 (x : Nat) : Nat := if x = 0 then 0 else Nat.log2 x + 1
theorem Yd.table {P : Program} [Tys P] {n : Nat} {fr : Fr} {w : World} {x y : Operand} {U T : TypeId} {l : List UInt8} {q : IntKind} {i : Int} {k : Nat} {f : Nat → Nat} (hU : strOf P U = some true) (hx : Fr.ev fr x = some (.string ⟨l.toArray⟩)) (hy : Fr.ev fr y = some (.int q i)) (hk : NatOf i k) (hk2 : k < 256)
    (h : (List.range 256).all (fun k => Nat.blt k l.length && Nat.beq (l.getD k 0).toNat (f k)) = true) : Yd P n (.index U x y) T fr w (.int .u8 (f k : Nat)) w := by
  have := List.all_eq_true.1 h k (List.mem_range.2 hk2)
  simp only [Bool.and_eq_true, Nat.blt_eq, Nat.beq_eq] at this
  have h2 := Yd.indexStr (P := P) (n := n) (w := w) (T := T) hU hx hy hk this.1
  rwa [this.2] at h2
theorem len8_le {x : Nat} (hx : x ≤ 255) : len8 x ≤ 8 := by
  unfold len8
  split
  · omega
  · rename_i h
    have := (Nat.log2_lt h).2 (show x < 2 ^ 8 by omega)
    omega
theorem len32 (x : Nat) (w : World) (hx : x ≤ 255) : Ret Try.prog 32 #[.int .u8 (x : Int)] w fun v w' => v = .int .i64 (len8 x : Nat) ∧ Ext w w' := by
  have hE0 := Ext.refl w
  have hl := len8_le hx
  have hw : IntKind.i64.wrap (len8 x : Nat) = (len8 x : Nat) := IntWalk.i64_in _ ⟨by omega, by omega⟩
  refine Ret.body Try.func32 rfl Try.ntmps32 rfl ?_
  refine Cd.seq ?_
  refine Cd.region ?_
  refine Seg.step rfl rfl (Yd.assign rfl) ?_
  refine Seg.nil ?_
  refine At.then_ ?_
  refine Cd.seq ?_
  refine Cd.region ?_
  refine Seg.step rfl rfl (Yd.move rfl) ?_
  refine Seg.step rfl rfl (Yd.table (f := len8) rfl rfl rfl (NatOf.cast x) (by omega) (by kernel_rfl)) ?_
  generalize len8 x = l at *
  refine Seg.step rfl rfl (Yd.convI rfl rfl rfl) ?_
  refine Seg.step rfl rfl (Yd.assign rfl) ?_
  refine Seg.nil ?_
  refine At.then_ ?_
  refine Cd.ret ?_
  exact At.ret Try.results32 (.tmp rfl .nil) ⟨congrArg (Value.int .i64) hw, by assumption⟩
theorem lz25 (x : Nat) (w : World) (hx : x ≤ 255) : Ret Try.prog 25 #[.int .u8 (x : Int)] w fun v w' => v = .int .i64 (8 - (len8 x : Nat)) ∧ Ext w w' := by
  have hE0 := Ext.refl w
  have hl := len8_le hx
  refine Ret.body Try.func25 rfl Try.ntmps25 rfl ?_
  refine Cd.seq ?_
  refine Cd.region ?_
  refine Seg.step rfl rfl (Yd.assign rfl) ?_
  refine Seg.nil ?_
  refine At.then_ ?_
  refine Cd.seq ?_
  refine Cd.region ?_
  refine Seg.step rfl rfl (Yd.move rfl) ?_
  (refine Seg.call rfl rfl (own_of rfl) rfl (len32 x _ hx) ?_; rintro _ w9 ⟨rfl, hE9⟩)
  replace hE0 := Ext.trans hE0 hE9
  refine Seg.step rfl rfl (Yd.subI rfl rfl (by omega)) ?_
  refine Seg.step rfl rfl (Yd.assign rfl) ?_
  refine Seg.nil ?_
  refine At.then_ ?_
  refine Cd.ret ?_
  exact At.ret Try.results25 (.tmp rfl .nil) ⟨rfl, by assumption⟩
theorem xor8 {x y : Nat} (hx : x ≤ 255) (hy : y ≤ 255) : bitsXor .u8 (x : Int) (y : Int) = ((x ^^^ y : Nat) : Int) ∧ x ^^^ y ≤ 255 := by
  have h1 : x ^^^ y < 2 ^ 8 := Nat.xor_lt_two_pow (by omega) (by omega)
  refine ⟨?_, by omega⟩
  have h2 : (BitVec.ofInt 8 (x : Int) ^^^ BitVec.ofInt 8 (y : Int)).toNat = x ^^^ y := by
    rw [BitVec.toNat_xor, BitVec.ofInt_natCast, BitVec.ofInt_natCast, BitVec.toNat_ofNat, BitVec.toNat_ofNat, Nat.mod_eq_of_lt (by omega), Nat.mod_eq_of_lt (by omega)]
  show IntKind.u8.wrap ((BitVec.ofInt 8 (x : Int) ^^^ BitVec.ofInt 8 (y : Int)).toNat : Nat) = _
  rw [h2]
  exact IntWalk.u8_in _ ⟨by omega, by omega⟩
theorem tb (x i : Nat) : x.testBit i = decide (x / 2 ^ i % 2 = 1) := Nat.testBit_eq_decide_div_mod_eq
theorem tb_eq {x y i : Nat} : x.testBit i = y.testBit i ↔ x / 2 ^ i % 2 = y / 2 ^ i % 2 := by
  rw [tb, tb, decide_eq_decide]; omega
theorem xor_zero {x y : Nat} (h : x ^^^ y = 0) : x = y := Nat.eq_of_testBit_eq fun i => by
  have : (x ^^^ y).testBit i = false := by rw [h]; simp
  rw [Nat.testBit_xor] at this
  cases h1 : x.testBit i <;> cases h2 : y.testBit i <;> simp [h1, h2] at this ⊢
theorem lead {x y : Nat} (hx : x ≤ 255) (hy : y ≤ 255) (h : x ^^^ y ≠ 0) :
    (1 ≤ len8 (x ^^^ y) ∧ len8 (x ^^^ y) ≤ 8) ∧ (∀ k, k < 8 - len8 (x ^^^ y) → x / 2 ^ (7 - k) % 2 = y / 2 ^ (7 - k) % 2) ∧ x / 2 ^ (7 - (8 - len8 (x ^^^ y))) % 2 ≠ y / 2 ^ (7 - (8 - len8 (x ^^^ y))) % 2 := by
  have h8 := len8_le (xor8 hx hy).2
  have hc : len8 (x ^^^ y) = Nat.log2 (x ^^^ y) + 1 := by simp [len8, h]
  have h1 : 2 ^ Nat.log2 (x ^^^ y) ≤ x ^^^ y := Nat.log2_self_le h
  have h2 : x ^^^ y < 2 ^ (Nat.log2 (x ^^^ y) + 1) := (Nat.log2_lt h).1 (by omega)
  rw [hc] at h8 ⊢
  generalize Nat.log2 (x ^^^ y) = L at *
  refine ⟨⟨by omega, by omega⟩, fun k hk => ?_, ?_⟩
  · apply tb_eq.1
    have : (x ^^^ y).testBit (7 - k) = false := Nat.testBit_lt_two_pow (Nat.lt_of_lt_of_le h2 (Nat.pow_le_pow_right (by omega) (by omega)))
    rw [Nat.testBit_xor] at this
    cases h1 : x.testBit (7 - k) <;> cases h2 : y.testBit (7 - k) <;> simp [h1, h2] at this ⊢
  · rw [show 7 - (8 - (L + 1)) = L by omega]
    intro hc
    have h3 := tb_eq.2 hc
    have : (x ^^^ y).testBit L = true := by
      rw [tb, decide_eq_true_iff]
      have : (x ^^^ y) / 2 ^ L = 1 := by
        apply Nat.div_eq_of_lt_le <;> (rw [Nat.pow_succ] at h2; omega)
      rw [this]
    rw [Nat.testBit_xor, h3] at this
    simp at this
theorem bits8 (f : Int) : bitsOf f = 8 * (bitsOf f / 8) := by unfold bitsOf; split <;> (try split) <;> rfl
theorem cmn_at {a b : Adr} {t : Nat} {x y : Nat} (hall : ∀ j : Nat, j < t → byteOf a j = byteOf b j) (ht : (t : Int) < bitsOf a.fam / 8) (hx : byteOf a t = x) (hy : byteOf b t = y) (hx8 : x ≤ 255) (hy8 : y ≤ 255) (h : x ^^^ y ≠ 0) : Cmn a b (8 * (t : Int) + (8 - (len8 (x ^^^ y) : Nat))) := by
  obtain ⟨⟨h1, h2⟩, h3, h4⟩ := lead hx8 hy8 h
  generalize len8 (x ^^^ y) = l at *
  refine ⟨8 * t + (8 - l), by omega, fun j hj => ?_, fun _ => ?_⟩
  · by_cases hjt : j < 8 * t
    · unfold bitN; rw [hall (j / 8) (by omega)]
    · have : j / 8 = t := by omega
      unfold bitN; rw [this, hx, hy]
      exact h3 (j % 8) (by omega)
  · have e1 : (8 * t + (8 - l)) / 8 = t := by omega
    have e2 : (8 * t + (8 - l)) % 8 = 8 - l := by omega
    unfold bitN; rw [e1, e2, hx, hy]
    exact h4
theorem cmn_end {a b : Adr} {t : Nat} (hall : ∀ j : Nat, j < t → byteOf a j = byteOf b j) (ht : ¬ (t : Int) < bitsOf a.fam / 8) : Cmn a b (bitsOf a.fam) := by
  have hle := bitsOf_le a.fam
  have hb8 := bits8 a.fam
  refine ⟨(bitsOf a.fam).toNat, by omega, fun j hj => ?_, fun h => by omega⟩
  unfold bitN; rw [hall (j / 8) (by omega)]
theorem common18 (a b : Adr) (w : World) (ha : WfA a) (hb : WfA b) (hf : a.fam = b.fam) : Ret Try.prog 18 #[.agg a.cells.toArray, .agg b.cells.toArray] w fun v w' => (∃ m : Int, v = .int .i64 m ∧ Cmn a b m) ∧ Ext w w' := by
  have hE0 := Ext.refl w
  have hle := bitsOf_le a.fam
  refine Ret.body Try.func18 rfl Try.ntmps18 rfl ?_
  refine Cd.seq ?_
  refine Cd.region ?_
  refine Seg.box rfl rfl rfl (fun w3 b3 hE3 hB3 hb3 => ?_)
  have hlt3_0 := Nat.le_trans hE0.size hb3
  replace hE0 := Ext.trans hE0 hE3
  refine Seg.box rfl rfl rfl (fun w4 b4 hE4 hB4 hb4 => ?_)
  have hlt4_0 := Nat.le_trans hE3.size hb4
  have hlt4_1 := Nat.lt_of_lt_of_le hB3.lt hb4
  have hlt4_2 := Nat.le_trans hE0.size hb4
  replace hE3 := Ext.trans hE3 hE4
  replace hB3 := hB3.ext hE4
  replace hE0 := Ext.trans hE0 hE4
  refine Seg.step rfl rfl (Yd.assign rfl) ?_
  refine Seg.nil ?_
  refine At.then_ ?_
  refine Cd.seq ?_
  refine Cd.seq ?_
  refine Cd.region ?_
  refine Seg.step rfl rfl (Yd.fieldAddr rfl rfl) ?_
  refine Seg.step rfl rfl (Yd.load1 rfl rfl (hB3.row _ _ rfl)) ?_
  refine Seg.step rfl rfl (Yd.fieldAddr rfl rfl) ?_
  refine Seg.step rfl rfl (Yd.load1 rfl rfl (hB4.row _ _ rfl)) ?_
  refine Seg.step rfl rfl (Yd.neq rfl rfl) ?_
  refine Seg.nil ?_
  refine At.then_ ?_
  refine Cd.condk rfl (fun h18 => ?_) (fun h18 => ?_)
  · exfalso; omega
  refine Cd.skip ?_
  refine At.then_ ?_
  refine Cd.seq ?_
  refine Cd.region ?_
  refine Seg.step rfl rfl (Yd.loadN rfl rfl rfl hB3.row) ?_
  (refine Seg.call rfl rfl (own_of rfl) rfl (bits24 a _) ?_; rintro _ w25 ⟨rfl, hE25⟩)
  replace hE4 := Ext.trans hE4 hE25
  replace hB4 := hB4.ext hE25
  replace hE3 := Ext.trans hE3 hE25
  replace hB3 := hB3.ext hE25
  replace hE0 := Ext.trans hE0 hE25
  refine Seg.step rfl rfl (Yd.assign rfl) ?_
  refine Seg.nil ?_
  refine At.then_ ?_
  refine Cd.seq ?_
  refine Cd.seq ?_
  refine Cd.region ?_
  refine Seg.step rfl rfl (Yd.move rfl) ?_
  refine Seg.step rfl rfl (Yd.quoN rfl rfl (by omega) (by omega)) ?_
  refine Seg.step rfl rfl (Yd.move rfl) ?_
  refine Seg.nil ?_
  refine At.then_ ?_
  refine Cd.block ?_
  refine Cd.loop (σ := Nat) (fun n => [(2, .pointer (some ⟨b3, 0, none⟩)), (3, .pointer (some ⟨b4, 0, none⟩)), (4, .int .i64 0), (5, .int .i64 (bitsOf a.fam)), (16, .int .i64 (bitsOf a.fam / 8)), (17, .int .i64 (n : Int))])
    (fun n w' => ((n : Int) ≤ bitsOf a.fam / 8 ∧ ∀ j : Nat, j < n → byteOf a j = byteOf b j) ∧ Ext w w' ∧ Bx w' b3 a.cells ∧ Bx w' b4 b.cells) (fun n => 16 - n) 0 (.cons rfl (.cons rfl (.cons rfl (.cons rfl (.cons rfl (.cons rfl (.nil _))))))) ⟨⟨by omega, fun j h => absurd h (Nat.not_lt_zero j)⟩, by assumption, hB3, hB4⟩ ?_
  clear hB3 hB4
  rintro n w0 ⟨⟨hn, hall⟩, hE, hB3, hB4⟩
  by_cases hlt : (n : Int) < bitsOf a.fam / 8
  · have h16 : n < 16 := by omega
    have hxa := byte_cast ha n
    have hyb := byte_cast hb n
    have hca : a.cells[1 + n]? = some (.int .u8 ((byteOf a n : Nat) : Int)) := by rw [cells_ip h16, hxa.1]
    have hcb : b.cells[1 + n]? = some (.int .u8 ((byteOf b n : Nat) : Int)) := by rw [cells_ip h16, hyb.1]
    have hat := fun h => cmn_at hall hlt rfl rfl hxa.2 hyb.2 h
    generalize hx : byteOf a n = x at hxa hca hat
    generalize hy : byteOf b n = y at hyb hcb hat
    obtain ⟨hxo, hx8⟩ := xor8 hxa.2 hyb.2
    have hlz := fun w1 => lz25 (x ^^^ y) w1 hx8
    rw [← hxo] at hlz
    have hat' : bitsXor .u8 (x : Int) (y : Int) ≠ 0 → Cmn a b (8 * (n : Int) + (8 - (len8 (x ^^^ y) : Nat))) := fun h => hat (by intro hc; rw [hxo, hc] at h; exact h rfl)
    have hl8 := len8_le hx8
    have hw2 : IntKind.i64.wrap (IntKind.i64.wrap (8 * (n : Int)) + (8 - (len8 (x ^^^ y) : Nat))) = 8 * (n : Int) + (8 - (len8 (x ^^^ y) : Nat)) := by
      rw [IntWalk.i64_in (8 * (n : Int)) ⟨by omega, by omega⟩, IntWalk.i64_in _ ⟨by omega, by omega⟩]
    have hnext : ¬ bitsXor .u8 (x : Int) (y : Int) ≠ 0 → ∀ j : Nat, j < n + 1 → byteOf a j = byteOf b j := fun h j hj => by
      have h0 : x ^^^ y = 0 := by
        have := Classical.not_not.1 h
        rw [hxo] at this
        exact Int.ofNat.inj this
      rcases Nat.lt_or_eq_of_le (Nat.le_of_lt_succ hj) with h | rfl
      · exact hall _ h
      · rw [hx, hy]; exact xor_zero h0
    refine Cd.seq ?_
    refine Cd.region ?_
    refine Seg.step rfl rfl (Yd.lss rfl rfl) ?_
    refine Seg.nil ?_
    refine At.then_ ?_
    refine Cd.seq ?_
    refine Cd.condk rfl (fun h32 => ?_) (fun h32 => ?_)
    · refine Cd.skip ?_
      refine At.then_ ?_
      refine Cd.seq ?_
      refine Cd.block ?_
      refine Cd.seq ?_
      refine Cd.region ?_
      refine Seg.step rfl rfl (Yd.move rfl) ?_
      refine Seg.step rfl rfl (Yd.assign rfl) ?_
      refine Seg.nil ?_
      refine At.then_ ?_
      refine Cd.seq ?_
      refine Cd.quiet (by kernel_rfl) (by kernel_rfl) ?_
      refine SegQ.step rfl rfl (fun w' hw' => Yd.move rfl) ?_
      refine SegQ.step rfl rfl (fun w' hw' => Yd.fieldAddr rfl rfl) ?_
      refine SegQ.step rfl rfl (fun w' hw' => Yd.indexArr1' rfl rfl rfl (NatOf.cast _) (by omega)) ?_
      refine SegQ.step rfl rfl (fun w' hw' => Yd.load1 rfl rfl ((hB3.row.ext hw') _ _ hca)) ?_
      refine SegQ.step rfl rfl (fun w' hw' => Yd.move rfl) ?_
      refine SegQ.step rfl rfl (fun w' hw' => Yd.fieldAddr rfl rfl) ?_
      refine SegQ.step rfl rfl (fun w' hw' => Yd.indexArr1' rfl rfl rfl (NatOf.cast _) (by omega)) ?_
      refine SegQ.step rfl rfl (fun w' hw' => Yd.load1 rfl rfl ((hB4.row.ext hw') _ _ hcb)) ?_
      refine SegQ.step rfl rfl (fun w' hw' => Yd.xor rfl rfl) ?_
      refine SegQ.step rfl rfl (fun w' hw' => Yd.assign rfl) ?_
      refine SegQ.nil fun w56 hE56 => ?_
      replace hE := Ext.trans hE hE56
      replace hB3 := hB3.ext hE56
      replace hB4 := hB4.ext hE56
      refine At.then_ ?_
      refine Cd.seq ?_
      refine Cd.region ?_
      refine Seg.step rfl rfl (Yd.move rfl) ?_
      refine Seg.step rfl rfl (Yd.neq rfl rfl) ?_
      refine Seg.nil ?_
      refine At.then_ ?_
      refine Cd.condk rfl (fun h64 => ?_) (fun h64 => ?_)
      · refine Cd.seq ?_
        refine Cd.region ?_
        refine Seg.step rfl rfl (Yd.move rfl) ?_
        refine Seg.step rfl rfl (Yd.mul rfl rfl) ?_
        refine Seg.step rfl rfl (Yd.move rfl) ?_
        (refine Seg.call rfl rfl (own_of rfl) rfl (hlz _) ?_; rintro _ w71 ⟨rfl, hE71⟩)
        replace hE56 := Ext.trans hE56 hE71
        replace hE := Ext.trans hE hE71
        replace hB3 := hB3.ext hE71
        replace hB4 := hB4.ext hE71
        refine Seg.step rfl rfl (Yd.add rfl rfl) ?_
        refine Seg.step rfl rfl (Yd.assign rfl) ?_
        refine Seg.nil ?_
        refine At.then_ ?_
        refine Cd.ret ?_
        refine At.blk_ret ?_
        refine At.then_ret ?_
        refine At.then_ret ?_
        refine At.blk_ret ?_
        refine At.then_ret ?_
        exact At.ret Try.results18 (.tmp rfl .nil) ⟨⟨_, congrArg (Value.int .i64) hw2, hat' (by assumption)⟩, by assumption⟩
      · refine Cd.skip ?_
        refine At.blk ?_
        refine At.then_ ?_
        refine Cd.region ?_
        refine Seg.step rfl rfl (Yd.addI rfl rfl (by omega)) ?_
        refine Seg.step rfl rfl (Yd.move rfl) ?_
        refine Seg.nil ?_
        exact At.round (n + 1) (.cons rfl (.cons rfl (.cons rfl (.cons rfl (.cons rfl (.cons rfl (.nil _))))))) ⟨⟨by show ((n + 1 : Nat) : Int) ≤ _; omega, hnext (by assumption)⟩, by assumption, by assumption, by assumption⟩ (by omega)
    · exfalso; omega
  · refine Cd.seq ?_
    refine Cd.region ?_
    refine Seg.step rfl rfl (Yd.lss rfl rfl) ?_
    refine Seg.nil ?_
    refine At.then_ ?_
    refine Cd.seq ?_
    refine Cd.condk rfl (fun h32 => ?_) (fun h32 => ?_)
    · exfalso; omega
    · refine Cd.exit ?_
      refine At.then_exit ?_
      refine At.then_exit ?_
      refine At.blk_same ?_
      refine At.then_ ?_
      refine Cd.seq ?_
      refine Cd.region ?_
      refine Seg.step rfl rfl (Yd.move rfl) ?_
      refine Seg.step rfl rfl (Yd.assign rfl) ?_
      refine Seg.nil ?_
      refine At.then_ ?_
      refine Cd.ret ?_
      exact At.ret Try.results18 (.tmp rfl .nil) ⟨⟨_, rfl, cmn_end hall hlt⟩, by assumption⟩
end Go.Proofs.Ytdomaooegpeneaa
