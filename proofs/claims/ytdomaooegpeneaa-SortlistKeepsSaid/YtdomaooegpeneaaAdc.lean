/- The bits of addresses, and how the reference counts like ones. -/
import Derived.Test.YtdomaooegpeneaaAdb
namespace Go.Proofs.Ytdomaooegpeneaa
open Go Go.RowKit
theorem Yd.quoN {P : Program} {n : Nat} {fr : Fr} {w : World} {T U U' : TypeId} {x y : Operand} {i j : Int} (hx : Fr.ev fr x = some (.int .i64 i)) (hy : Fr.ev fr y = some (.int .i64 j)) (hi : 0 ≤ i ∧ i ≤ 9223372036854775807) (hj : 0 < j) : Yd P n (.binOp .quo U x y U') T fr w (.int .i64 (i / j)) w := by
  have h1 : i.tdiv j = i / j := Int.tdiv_eq_ediv_of_nonneg hi.1
  have h2 : 0 ≤ i / j := Int.ediv_nonneg hi.1 (by omega)
  have h3 : i / j ≤ i := Int.ediv_le_self j hi.1
  have := Yd.quo (P := P) (n := n) (w := w) (T := T) (U := U) (U' := U') hx hy (by omega)
  rwa [h1, IntWalk.i64_in _ ⟨by omega, by omega⟩] at this
def byteOf (a : Adr) (i : Nat) : Nat := (a.ip.getD i 0).toNat
theorem byte_cast {a : Adr} (h : WfA a) (i : Nat) : a.ip.getD i 0 = (byteOf a i : Nat) ∧ byteOf a i ≤ 255 := by
  have := (ip_w8 h i).bd
  unfold byteOf; omega
def bitN (a : Adr) (i : Nat) : Nat := byteOf a (i / 8) / 2 ^ (7 - i % 8) % 2
structure BitS where
  k : Int
  c : Int
theorem half_pow (x m : Nat) : x / 2 ^ m / 2 = x / 2 ^ (m + 1) := by rw [Nat.div_div_eq_div_mul, ← Nat.pow_succ]
theorem bit28 (a : Adr) (i : Nat) (w : World) (ha : WfA a) (hi : i < 128) : Ret Try.prog 28 #[.agg a.cells.toArray, .int .i64 (i : Int)] w fun v w' => v = .int .i64 (bitN a i : Nat) ∧ Ext w w' := by
  have hE0 := Ext.refl w
  have hb := byte_cast ha (i / 8)
  have h16 : i / 8 < 16 := by omega
  have hc : a.cells[1 + ((i : Int) / 8).toNat]? = some (.int .u8 ((byteOf a (i / 8) : Nat) : Int)) := by rw [show ((i : Int) / 8).toNat = i / 8 by omega, cells_ip h16, hb.1]
  generalize hx : byteOf a (i / 8) = x at hb hc
  have hx8 : IntKind.i64.wrap (x : Int) = (x : Int) := IntWalk.i64_in _ ⟨by omega, by omega⟩
  refine Ret.body Try.func28 rfl Try.ntmps28 rfl ?_
  refine Cd.seq ?_
  refine Cd.region ?_
  refine Seg.box rfl rfl rfl (fun w19 b19 hE19 hB19 hb19 => ?_)
  have hlt19_0 := Nat.le_trans hE0.size hb19
  replace hE0 := Ext.trans hE0 hE19
  refine Seg.step rfl rfl (Yd.assign rfl) ?_
  refine Seg.nil ?_
  refine At.then_ ?_
  refine Cd.seq ?_
  refine Cd.region ?_
  refine Seg.step rfl rfl (Yd.move rfl) ?_
  refine Seg.step rfl rfl (Yd.quoN rfl rfl (by omega) (by omega)) ?_
  refine Seg.step rfl rfl (Yd.fieldAddr rfl rfl) ?_
  refine Seg.step rfl rfl (Yd.indexArr1' rfl rfl rfl (NatOf.self (by omega)) (by omega)) ?_
  refine Seg.step rfl rfl (Yd.load1 rfl rfl (hB19.row _ _ hc)) ?_
  refine Seg.step rfl rfl (Yd.convI rfl rfl rfl) ?_
  refine Seg.step rfl rfl (Yd.assign rfl) ?_
  refine Seg.nil ?_
  refine At.then_ ?_
  refine Cd.seq ?_
  refine Cd.seq ?_
  refine Cd.region ?_
  refine Seg.step rfl rfl (Yd.move rfl) ?_
  refine Seg.step rfl rfl (Yd.remN rfl rfl (by omega) (by omega)) ?_
  refine Seg.step rfl rfl (Yd.assign rfl) ?_
  refine Seg.nil ?_
  refine At.then_ ?_
  refine Cd.block ?_
  refine Cd.loop (σ := BitS) (fun s => [(4, .int .i64 0), (5, .int .i64 s.c), (6, .int .i64 s.k)])
    (fun s w' => (∃ k c : Nat, s.k = k ∧ s.c = c ∧ i % 8 ≤ k ∧ k ≤ 7 ∧ c ≤ 255 ∧ c = x / 2 ^ (k - i % 8)) ∧ Ext w w') (fun s => (7 - s.k).toNat) ⟨_, _⟩ (.cons rfl (.cons rfl (.cons rfl (.nil _)))) ⟨⟨i % 8, x, by show (i : Int) % 8 = _; omega, hx8, by omega, by omega, by omega, by simp⟩, by assumption⟩ ?_
  clear hB19 hc
  rintro ⟨k', c'⟩ w0 ⟨⟨k, c, hk, hcc, h1, h2, h3, h4⟩, hE⟩
  simp only at hk hcc ⊢
  subst hk hcc
  by_cases hlt : k < 7
  · have h5 : c / 2 = x / 2 ^ (k + 1 - i % 8) := by rw [h4, half_pow, show k - i % 8 + 1 = k + 1 - i % 8 by omega]
    refine Cd.seq ?_
    refine Cd.seq ?_
    refine Cd.region ?_
    refine Seg.step rfl rfl (Yd.move rfl) ?_
    refine Seg.step rfl rfl (Yd.lss rfl rfl) ?_
    refine Seg.nil ?_
    refine At.then_ ?_
    refine Cd.condk rfl (fun h27 => ?_) (fun h27 => ?_)
    · refine Cd.skip ?_
      refine At.then_ ?_
      refine Cd.seq ?_
      refine Cd.block ?_
      refine Cd.region ?_
      refine Seg.step rfl rfl (Yd.move rfl) ?_
      refine Seg.step rfl rfl (Yd.quoN rfl rfl (by omega) (by omega)) ?_
      refine Seg.step rfl rfl (Yd.assign rfl) ?_
      refine Seg.nil ?_
      refine At.blk ?_
      refine At.then_ ?_
      refine Cd.region ?_
      refine Seg.step rfl rfl (Yd.move rfl) ?_
      refine Seg.step rfl rfl (Yd.addI rfl rfl (by omega)) ?_
      refine Seg.step rfl rfl (Yd.assign rfl) ?_
      refine Seg.nil ?_
      exact At.round (⟨_, _⟩ : BitS) (.cons rfl (.cons rfl (.cons rfl (.nil _)))) ⟨⟨k + 1, c / 2, by show (k : Int) + 1 = _; omega, by show (c : Int) / 2 = _; omega, by omega, by omega, by omega, h5⟩, by assumption⟩ (by show (7 - ((k : Int) + 1)).toNat < (7 - (k : Int)).toNat; omega)
    · exfalso; omega
  · have h5 : Value.int .i64 ((c : Int) % 2) = .int .i64 (bitN a i : Nat) := by
      have : k = 7 := by omega
      subst this
      unfold bitN
      rw [hx, ← h4]; rfl
    refine Cd.seq ?_
    refine Cd.seq ?_
    refine Cd.region ?_
    refine Seg.step rfl rfl (Yd.move rfl) ?_
    refine Seg.step rfl rfl (Yd.lss rfl rfl) ?_
    refine Seg.nil ?_
    refine At.then_ ?_
    refine Cd.condk rfl (fun h27 => ?_) (fun h27 => ?_)
    · exfalso; omega
    · refine Cd.exit ?_
      refine At.then_exit ?_
      refine At.then_exit ?_
      refine At.blk_same ?_
      refine At.then_ ?_
      refine Cd.seq ?_
      refine Cd.region ?_
      refine Seg.step rfl rfl (Yd.move rfl) ?_
      refine Seg.step rfl rfl (Yd.remN rfl rfl (by omega) (by omega)) ?_
      refine Seg.step rfl rfl (Yd.assign rfl) ?_
      refine Seg.nil ?_
      refine At.then_ ?_
      refine Cd.ret ?_
      exact At.ret Try.results28 (.tmp rfl .nil) ⟨h5, by assumption⟩
theorem bitsOf_le (f : Int) : 0 ≤ bitsOf f ∧ bitsOf f ≤ 128 := by unfold bitsOf; split <;> (try split) <;> omega
/-- With m like bits two addresses begin. -/
def Cmn (a b : Adr) (m : Int) : Prop := ∃ n : Nat, m = n ∧ (∀ j : Nat, j < n → bitN a j = bitN b j) ∧ ((n : Int) < bitsOf a.fam → bitN a n ≠ bitN b n)
theorem common20 (a b : Adr) (w : World) (ha : WfA a) (hb : WfA b) (hf : a.fam = b.fam) : Ret Try.prog 20 #[.agg a.cells.toArray, .agg b.cells.toArray] w fun v w' => (∃ m : Int, v = .int .i64 m ∧ Cmn a b m) ∧ Ext w w' := by
  have hE0 := Ext.refl w
  have hle := bitsOf_le a.fam
  refine Ret.body Try.func20 rfl Try.ntmps20 rfl ?_
  refine Cd.seq ?_
  refine Cd.region ?_
  refine Seg.box rfl rfl rfl (fun w3 b3 hE3 hB3 hb3 => ?_)
  have hlt3_0 := Nat.le_trans hE0.size hb3
  replace hE0 := Ext.trans hE0 hE3
  refine Seg.box rfl rfl rfl (fun w4 b4 hE4 hB4 hb4 => ?_)
  have hlt4_0 := Nat.le_trans hE3.size hb4
  have hlt4_1 := Nat.lt_of_lt_of_le hB3.lt hb4
  have hlt4_2 := Nat.le_trans hE0.size hb4
  replace hE3 := Ext.trans hE3 hE4
  replace hB3 := hB3.ext hE4
  replace hE0 := Ext.trans hE0 hE4
  refine Seg.step rfl rfl (Yd.assign rfl) ?_
  refine Seg.nil ?_
  refine At.then_ ?_
  refine Cd.seq ?_
  refine Cd.region ?_
  refine Seg.step rfl rfl (Yd.assign rfl) ?_
  refine Seg.nil ?_
  refine At.then_ ?_
  refine Cd.seq ?_
  refine Cd.block ?_
  refine Cd.loop (σ := Nat) (fun n => [(2, .pointer (some ⟨b3, 0, none⟩)), (3, .pointer (some ⟨b4, 0, none⟩)), (4, .int .i64 0), (5, .int .i64 (n : Int))])
    (fun n w' => ((n : Int) ≤ bitsOf a.fam ∧ ∀ j : Nat, j < n → bitN a j = bitN b j) ∧ Ext w w' ∧ Bx w' b3 a.cells ∧ Bx w' b4 b.cells) (fun n => 128 - n) 0 (.cons rfl (.cons rfl (.cons rfl (.cons rfl (.nil _))))) ⟨⟨hle.1, fun j h => absurd h (Nat.not_lt_zero j)⟩, by assumption, hB3, hB4⟩ ?_
  clear hB3 hB4
  rintro n w0 ⟨⟨hn, hall⟩, hE, hB3, hB4⟩
  refine Cd.seq ?_
  refine Cd.seq ?_
  refine Cd.quiet (by kernel_rfl) (by kernel_rfl) ?_
  refine SegQ.step rfl rfl (fun w' hw' => Yd.move rfl) ?_
  refine SegQ.step rfl rfl (fun w' hw' => Yd.loadN rfl rfl rfl (hB3.ext hw').row) ?_
  refine SegQ.call rfl rfl (own_of rfl) rfl (fun w' hw' => (bits27 a w').mono fun v w2 ⟨hv, h2⟩ => ⟨hv, hw'.trans h2⟩) ?_
  refine SegQ.step rfl rfl (fun w' hw' => Yd.lss rfl rfl) ?_
  refine SegQ.step rfl rfl (fun w' hw' => Yd.move rfl) ?_
  refine SegQ.gsplitp rfl rfl (fun h13 => ?_) (fun h13 => ?_)
  · refine SegQ.step rfl rfl (fun w' hw' => Yd.fieldAddr rfl rfl) ?_
    refine SegQ.step rfl rfl (fun w' hw' => Yd.load1 rfl rfl ((hB3.ext hw').row _ _ rfl)) ?_
    refine SegQ.step rfl rfl (fun w' hw' => Yd.fieldAddr rfl rfl) ?_
    refine SegQ.step rfl rfl (fun w' hw' => Yd.load1 rfl rfl ((hB4.ext hw').row _ _ rfl)) ?_
    refine SegQ.step rfl rfl (fun w' hw' => Yd.eql rfl rfl) ?_
    refine SegQ.step rfl rfl (fun w' hw' => Yd.pickT rfl rfl) ?_
    refine SegQ.step rfl rfl (fun w' hw' => Yd.move rfl) ?_
    refine SegQ.gsplitp rfl rfl (fun h22 => ?_) (fun h22 => ?_)
    · refine SegQ.step rfl rfl (fun w' hw' => Yd.loadN rfl rfl rfl (hB3.ext hw').row) ?_
      refine SegQ.step rfl rfl (fun w' hw' => Yd.move rfl) ?_
      refine SegQ.call rfl rfl (own_of rfl) rfl (fun w' hw' => (bit28 a n w' ha (by omega)).mono fun v w2 ⟨hv, h2⟩ => ⟨hv, hw'.trans h2⟩) ?_
      refine SegQ.step rfl rfl (fun w' hw' => Yd.loadN rfl rfl rfl (hB4.ext hw').row) ?_
      refine SegQ.step rfl rfl (fun w' hw' => Yd.move rfl) ?_
      refine SegQ.call rfl rfl (own_of rfl) rfl (fun w' hw' => (bit28 b n w' hb (by omega)).mono fun v w2 ⟨hv, h2⟩ => ⟨hv, hw'.trans h2⟩) ?_
      refine SegQ.step rfl rfl (fun w' hw' => Yd.eql rfl rfl) ?_
      refine SegQ.step rfl rfl (fun w' hw' => Yd.pickT rfl rfl) ?_
      refine SegQ.nil fun w32 hE32 => ?_
      replace hE := Ext.trans hE hE32
      replace hB3 := hB3.ext hE32
      replace hB4 := hB4.ext hE32
      refine At.then_ ?_
      refine Cd.condk rfl (fun h34 => ?_) (fun h34 => ?_)
      · refine Cd.skip ?_
        refine At.then_ ?_
        refine Cd.block ?_
        refine Cd.region ?_
        refine Seg.step rfl rfl (Yd.move rfl) ?_
        refine Seg.step rfl rfl (Yd.addI rfl rfl (by omega)) ?_
        refine Seg.step rfl rfl (Yd.assign rfl) ?_
        refine Seg.nil ?_
        refine At.blk ?_
        exact At.round (n + 1) (.cons rfl (.cons rfl (.cons rfl (.cons rfl (.nil _))))) ⟨⟨by show ((n + 1 : Nat) : Int) ≤ _; omega, fun j h => by rcases Nat.lt_or_eq_of_le (Nat.le_of_lt_succ h) with h | rfl; (exact hall _ h); omega⟩, by assumption, by assumption, by assumption⟩ (by omega)
      · refine Cd.exit ?_
        refine At.then_exit ?_
        refine At.then_exit ?_
        refine At.blk_same ?_
        refine At.then_ ?_
        refine Cd.seq ?_
        refine Cd.region ?_
        refine Seg.step rfl rfl (Yd.move rfl) ?_
        refine Seg.step rfl rfl (Yd.assign rfl) ?_
        refine Seg.nil ?_
        refine At.then_ ?_
        refine Cd.ret ?_
        exact At.ret Try.results20 (.tmp rfl .nil) ⟨⟨_, rfl, n, rfl, hall, fun h hc => by omega⟩, by assumption⟩
    · exfalso; omega
  · refine SegQ.skip rfl rfl ?_
    refine SegQ.skip rfl rfl ?_
    refine SegQ.skip rfl rfl ?_
    refine SegQ.skip rfl rfl ?_
    refine SegQ.skip rfl rfl ?_
    refine SegQ.step rfl rfl (fun w' hw' => Yd.pickF rfl rfl) ?_
    refine SegQ.step rfl rfl (fun w' hw' => Yd.move rfl) ?_
    refine SegQ.skip rfl rfl ?_
    refine SegQ.skip rfl rfl ?_
    refine SegQ.skip rfl rfl ?_
    refine SegQ.skip rfl rfl ?_
    refine SegQ.skip rfl rfl ?_
    refine SegQ.skip rfl rfl ?_
    refine SegQ.skip rfl rfl ?_
    refine SegQ.step rfl rfl (fun w' hw' => Yd.pickF rfl rfl) ?_
    refine SegQ.nil fun w76 hE76 => ?_
    replace hE := Ext.trans hE hE76
    replace hB3 := hB3.ext hE76
    replace hB4 := hB4.ext hE76
    refine At.then_ ?_
    refine Cd.condF rfl ?_
    refine Cd.exit ?_
    refine At.then_exit ?_
    refine At.then_exit ?_
    refine At.blk_same ?_
    refine At.then_ ?_
    refine Cd.seq ?_
    refine Cd.region ?_
    refine Seg.step rfl rfl (Yd.move rfl) ?_
    refine Seg.step rfl rfl (Yd.assign rfl) ?_
    refine Seg.nil ?_
    refine At.then_ ?_
    refine Cd.ret ?_
    exact At.ret Try.results20 (.tmp rfl .nil) ⟨⟨_, rfl, n, rfl, hall, fun h hc => by omega⟩, by assumption⟩
end Go.Proofs.Ytdomaooegpeneaa
