/- Code points as bytes: the walks of package utf. -/
import Derived.Test.YtahpiaaffeiadaaGreatEdo
namespace Go.Proofs.YtahpiaaffeiadaaGreat
open Go Go.RowKit
/-- May a point stand in a text? -/
def pointI (c : Int) : Prop := 0 ≤ c ∧ c ≤ 1114111 ∧ (c < 55296 ∨ 57343 < c)
instance (c : Int) : Decidable (pointI c) := by unfold pointI; infer_instance
theorem upoint_any (c : Int) (w : World) : Ret Tryz.prog 76 #[.int .i32 c] w fun v w' => v = .bool (decide (pointI c)) ∧ Ext w w' := by
  have hE0 := Ext.refl w
  refine Ret.body Tryz.func76 rfl Tryz.ntmps76 rfl ?_
  have hm : 0 ≤ c → c ≤ 1114111 → ¬ c < 55296 → Value.bool (decide (57343 < c)) = .bool (decide (pointI c)) := fun h1 h2 h3 => by
    congr 1
    rw [decide_eq_decide]
    unfold pointI
    omega
  refine Cd.seq (Cd.region (Seg.step rfl rfl (Yd.assign rfl) (Seg.nil (At.then_ (Cd.seq (Cd.region (Seg.step rfl rfl (Yd.move rfl) ?_)))))))
  refine Seg.step rfl rfl (Yd.leq rfl rfl) (Seg.step rfl rfl (Yd.move rfl) ?_)
  refine Seg.gsplitp rfl rfl (fun h11 => ?_) (fun h11 => ?_)
  · refine Seg.step rfl rfl (Yd.move rfl) (Seg.step rfl rfl (Yd.leq rfl rfl) (Seg.step rfl rfl (Yd.pickT rfl rfl) (Seg.step rfl rfl (Yd.move rfl) ?_)))
    refine Seg.gsplitp rfl rfl (fun h17 => ?_) (fun h17 => ?_)
    · refine Seg.step rfl rfl (Yd.move rfl) (Seg.step rfl rfl (Yd.lss rfl rfl) (Seg.step rfl rfl (Yd.move rfl) ?_))
      refine Seg.gsplitp rfl rfl (fun h22 => ?_) (fun h22 => ?_)
      · refine Seg.skip rfl rfl (Seg.skip rfl rfl (Seg.step rfl rfl (Yd.pickT rfl rfl) (Seg.step rfl rfl (Yd.pickT rfl rfl) (Seg.step rfl rfl (Yd.assign rfl) (Seg.nil (At.then_ (Cd.ret ?_)))))))
        first | exact At.ret Tryz.results76 (.tmp rfl .nil) ⟨bF (by unfold pointI; omega), hE0⟩ | exact At.ret Tryz.results76 (.tmp rfl .nil) ⟨bT (by unfold pointI; omega), hE0⟩ | exact At.ret Tryz.results76 (.tmp rfl .nil) ⟨hm (by omega) (by omega) (by omega), hE0⟩
      · refine Seg.step rfl rfl (Yd.move rfl) (Seg.step rfl rfl (Yd.gtr rfl rfl) (Seg.step rfl rfl (Yd.pickF rfl rfl) (Seg.step rfl rfl (Yd.pickT rfl rfl) (Seg.step rfl rfl (Yd.assign rfl) (Seg.nil (At.then_ (Cd.ret ?_)))))))
        first | exact At.ret Tryz.results76 (.tmp rfl .nil) ⟨bF (by unfold pointI; omega), hE0⟩ | exact At.ret Tryz.results76 (.tmp rfl .nil) ⟨bT (by unfold pointI; omega), hE0⟩ | exact At.ret Tryz.results76 (.tmp rfl .nil) ⟨hm (by omega) (by omega) (by omega), hE0⟩
    · refine Seg.skip rfl rfl (Seg.skip rfl rfl (Seg.skip rfl rfl (Seg.skip rfl rfl (Seg.skip rfl rfl (Seg.skip rfl rfl (Seg.step rfl rfl (Yd.pickF rfl rfl) (Seg.step rfl rfl (Yd.assign rfl) ?_)))))))
      refine Seg.nil (At.then_ (Cd.ret ?_))
      first | exact At.ret Tryz.results76 (.tmp rfl .nil) ⟨bF (by unfold pointI; omega), hE0⟩ | exact At.ret Tryz.results76 (.tmp rfl .nil) ⟨bT (by unfold pointI; omega), hE0⟩ | exact At.ret Tryz.results76 (.tmp rfl .nil) ⟨hm (by omega) (by omega) (by omega), hE0⟩
  · refine Seg.skip rfl rfl (Seg.skip rfl rfl (Seg.step rfl rfl (Yd.pickF rfl rfl) (Seg.step rfl rfl (Yd.move rfl) (Seg.skip rfl rfl (Seg.skip rfl rfl (Seg.skip rfl rfl (Seg.skip rfl rfl ?_)))))))
    refine Seg.skip rfl rfl (Seg.skip rfl rfl (Seg.step rfl rfl (Yd.pickF rfl rfl) (Seg.step rfl rfl (Yd.assign rfl) (Seg.nil (At.then_ (Cd.ret ?_))))))
    first | exact At.ret Tryz.results76 (.tmp rfl .nil) ⟨bF (by unfold pointI; omega), hE0⟩ | exact At.ret Tryz.results76 (.tmp rfl .nil) ⟨bT (by unfold pointI; omega), hE0⟩ | exact At.ret Tryz.results76 (.tmp rfl .nil) ⟨hm (by omega) (by omega) (by omega), hE0⟩
/-- How many bytes a point has, its bits in the first one, and the least such point. -/
def shp (b : Nat) : Nat × Nat × Nat := if b < 128 then (1, b, 0) else if b < 192 then (0, 0, 0) else if b < 224 then (2, b % 32, 128) else if b < 240 then (3, b % 16, 2048) else if b < 248 then (4, b % 8, 65536) else (0, 0, 0)
def shpV (b : Nat) : Value := .tuple #[.int .i64 ((shp b).1 : Nat), .int .i32 ((shp b).2.1 : Nat), .int .i32 ((shp b).2.2 : Nat)]
theorem and_low {k : IntKind} {a m : Nat} (ha : a < 2 ^ k.bits) (hm : 2 ^ m - 1 < 2 ^ k.bits) : bitsAnd k a ((2 ^ m - 1 : Nat) : Int) = k.wrap ((a % 2 ^ m : Nat) : Int) := by
  rw [bitsAnd_nat ha hm, Nat.and_two_pow_sub_one_eq_mod]
theorem u8_i32 (b : Nat) (h : b < 256) : IntKind.i32.wrap (b : Int) = b := IntWalk.i32_in _ ⟨by omega, by omega⟩
theorem and_31 (b : UInt8) : bitsAnd .u8 (b.toNat : Int) 31 = ((b.toNat % 32 : Nat) : Int) := by
  have hb := byte_lt b
  have := and_low (k := .u8) (a := b.toNat) (m := 5) hb (by decide)
  rw [u8_id (by omega) (by omega)] at this; exact this
theorem and_15 (b : UInt8) : bitsAnd .u8 (b.toNat : Int) 15 = ((b.toNat % 16 : Nat) : Int) := by
  have hb := byte_lt b
  have := and_low (k := .u8) (a := b.toNat) (m := 4) hb (by decide)
  rw [u8_id (by omega) (by omega)] at this; exact this
theorem and_7 (b : UInt8) : bitsAnd .u8 (b.toNat : Int) 7 = ((b.toNat % 8 : Nat) : Int) := by
  have hb := byte_lt b
  have := and_low (k := .u8) (a := b.toNat) (m := 3) hb (by decide)
  rw [u8_id (by omega) (by omega)] at this; exact this
theorem shape_any (b : UInt8) (w : World) : Ret Tryz.prog 75 #[.int .u8 b.toNat] w fun v w' => v = shpV b.toNat ∧ Ext w w' := by
  have hE0 := Ext.refl w
  refine Ret.body Tryz.func75 rfl Tryz.ntmps75 rfl ?_
  have hb := byte_lt b
  have key : ∀ n c m : Nat, shp b.toNat = (n, c, m) → shpV b.toNat = Value.tuple #[.int .i64 (n : Int), .int .i32 (c : Int), .int .i32 (m : Int)] := fun n c m h => by unfold shpV; rw [h]
  by_cases h1 : b.toNat < 128
  · rw [key 1 b.toNat 0 (by unfold shp; rw [if_pos h1])]
    refine Cd.seq (Cd.region (Seg.step rfl rfl (Yd.assign rfl) (Seg.step rfl rfl (Yd.assign rfl) (Seg.step rfl rfl (Yd.assign rfl) (Seg.nil (At.then_ (Cd.seq ?_)))))))
    refine Cd.block (Cd.seq (Cd.region (Seg.step rfl rfl (Yd.move rfl) (Seg.step rfl rfl (Yd.lss rfl rfl) (Seg.step rfl rfl (Yd.assign rfl) (Seg.nil (At.then_ ?_)))))))
    refine Cd.condk rfl (fun h18 => ?_) (fun h18 => ?_)
    · refine Cd.seq (Cd.region (Seg.step rfl rfl (Yd.move rfl) ?_))
      (refine Seg.step rfl rfl (Yd.convN rfl rfl rfl (u8_i32 _ (by omega))) ?_)
      refine Seg.step rfl rfl (Yd.assign rfl) (Seg.step rfl rfl (Yd.assign rfl) (Seg.step rfl rfl (Yd.assign rfl) (Seg.nil (At.then_ (Cd.ret (At.blk_ret (At.then_ret ?_)))))))
      exact At.ret Tryz.results75 (.tmp rfl (.tmp rfl (.tmp rfl .nil))) ⟨rfl, hE0⟩
    · exfalso; omega
  by_cases h2 : b.toNat < 192
  · rw [key 0 0 0 (by unfold shp; rw [if_neg h1, if_pos h2])]
    refine Cd.seq (Cd.region (Seg.step rfl rfl (Yd.assign rfl) (Seg.step rfl rfl (Yd.assign rfl) (Seg.step rfl rfl (Yd.assign rfl) (Seg.nil (At.then_ (Cd.seq ?_)))))))
    refine Cd.block (Cd.seq (Cd.region (Seg.step rfl rfl (Yd.move rfl) (Seg.step rfl rfl (Yd.lss rfl rfl) (Seg.step rfl rfl (Yd.assign rfl) (Seg.nil (At.then_ ?_)))))))
    refine Cd.condk rfl (fun h19 => ?_) (fun h19 => ?_)
    · exfalso; omega
    · refine Cd.seq (Cd.region (Seg.step rfl rfl (Yd.move rfl) (Seg.step rfl rfl (Yd.lss rfl rfl) (Seg.step rfl rfl (Yd.assign rfl) (Seg.nil (At.then_ ?_))))))
      refine Cd.condk rfl (fun h28 => ?_) (fun h28 => ?_)
      · refine Cd.seq (Cd.region (Seg.step rfl rfl (Yd.assign rfl) (Seg.step rfl rfl (Yd.assign rfl) (Seg.step rfl rfl (Yd.assign rfl) (Seg.nil (At.then_ (Cd.ret ?_)))))))
        refine At.blk_ret (At.then_ret ?_)
        exact At.ret Tryz.results75 (.tmp rfl (.tmp rfl (.tmp rfl .nil))) ⟨rfl, hE0⟩
      · exfalso; omega
  by_cases h3 : b.toNat < 224
  · rw [key 2 (b.toNat % 32) 128 (by unfold shp; rw [if_neg h1, if_neg h2, if_pos h3])]
    refine Cd.seq (Cd.region (Seg.step rfl rfl (Yd.assign rfl) (Seg.step rfl rfl (Yd.assign rfl) (Seg.step rfl rfl (Yd.assign rfl) (Seg.nil (At.then_ (Cd.seq ?_)))))))
    refine Cd.block (Cd.seq (Cd.region (Seg.step rfl rfl (Yd.move rfl) (Seg.step rfl rfl (Yd.lss rfl rfl) (Seg.step rfl rfl (Yd.assign rfl) (Seg.nil (At.then_ ?_)))))))
    refine Cd.condk rfl (fun h20 => ?_) (fun h20 => ?_)
    · exfalso; omega
    · refine Cd.seq (Cd.region (Seg.step rfl rfl (Yd.move rfl) (Seg.step rfl rfl (Yd.lss rfl rfl) (Seg.step rfl rfl (Yd.assign rfl) (Seg.nil (At.then_ ?_))))))
      refine Cd.condk rfl (fun h29 => ?_) (fun h29 => ?_)
      · exfalso; omega
      · refine Cd.seq (Cd.region (Seg.step rfl rfl (Yd.move rfl) (Seg.step rfl rfl (Yd.lss rfl rfl) (Seg.step rfl rfl (Yd.assign rfl) (Seg.nil (At.then_ ?_))))))
        refine Cd.condk rfl (fun h38 => ?_) (fun h38 => ?_)
        · refine Cd.seq (Cd.region (Seg.step rfl rfl (Yd.move rfl) ?_))
          (refine Seg.step rfl rfl (Yd.and rfl rfl) ?_; first | rw [and_31] | rw [and_15] | rw [and_7])
          (refine Seg.step rfl rfl (Yd.convN rfl rfl rfl (u8_i32 _ (by omega))) ?_)
          refine Seg.step rfl rfl (Yd.assign rfl) (Seg.step rfl rfl (Yd.assign rfl) (Seg.step rfl rfl (Yd.assign rfl) (Seg.nil (At.then_ (Cd.ret (At.blk_ret (At.then_ret ?_)))))))
          exact At.ret Tryz.results75 (.tmp rfl (.tmp rfl (.tmp rfl .nil))) ⟨rfl, hE0⟩
        · exfalso; omega
  by_cases h4 : b.toNat < 240
  · rw [key 3 (b.toNat % 16) 2048 (by unfold shp; rw [if_neg h1, if_neg h2, if_neg h3, if_pos h4])]
    refine Cd.seq (Cd.region (Seg.step rfl rfl (Yd.assign rfl) (Seg.step rfl rfl (Yd.assign rfl) (Seg.step rfl rfl (Yd.assign rfl) (Seg.nil (At.then_ (Cd.seq ?_)))))))
    refine Cd.block (Cd.seq (Cd.region (Seg.step rfl rfl (Yd.move rfl) (Seg.step rfl rfl (Yd.lss rfl rfl) (Seg.step rfl rfl (Yd.assign rfl) (Seg.nil (At.then_ ?_)))))))
    refine Cd.condk rfl (fun h21 => ?_) (fun h21 => ?_)
    · exfalso; omega
    · refine Cd.seq (Cd.region (Seg.step rfl rfl (Yd.move rfl) (Seg.step rfl rfl (Yd.lss rfl rfl) (Seg.step rfl rfl (Yd.assign rfl) (Seg.nil (At.then_ ?_))))))
      refine Cd.condk rfl (fun h30 => ?_) (fun h30 => ?_)
      · exfalso; omega
      · refine Cd.seq (Cd.region (Seg.step rfl rfl (Yd.move rfl) (Seg.step rfl rfl (Yd.lss rfl rfl) (Seg.step rfl rfl (Yd.assign rfl) (Seg.nil (At.then_ ?_))))))
        refine Cd.condk rfl (fun h39 => ?_) (fun h39 => ?_)
        · exfalso; omega
        · refine Cd.seq (Cd.region (Seg.step rfl rfl (Yd.move rfl) (Seg.step rfl rfl (Yd.lss rfl rfl) (Seg.step rfl rfl (Yd.assign rfl) (Seg.nil (At.then_ ?_))))))
          refine Cd.condk rfl (fun h48 => ?_) (fun h48 => ?_)
          · refine Cd.seq (Cd.region (Seg.step rfl rfl (Yd.move rfl) ?_))
            (refine Seg.step rfl rfl (Yd.and rfl rfl) ?_; first | rw [and_31] | rw [and_15] | rw [and_7])
            (refine Seg.step rfl rfl (Yd.convN rfl rfl rfl (u8_i32 _ (by omega))) ?_)
            refine Seg.step rfl rfl (Yd.assign rfl) (Seg.step rfl rfl (Yd.assign rfl) (Seg.step rfl rfl (Yd.assign rfl) (Seg.nil (At.then_ (Cd.ret (At.blk_ret (At.then_ret ?_)))))))
            exact At.ret Tryz.results75 (.tmp rfl (.tmp rfl (.tmp rfl .nil))) ⟨rfl, hE0⟩
          · exfalso; omega
  by_cases h5 : b.toNat < 248
  · rw [key 4 (b.toNat % 8) 65536 (by unfold shp; rw [if_neg h1, if_neg h2, if_neg h3, if_neg h4, if_pos h5])]
    refine Cd.seq (Cd.region (Seg.step rfl rfl (Yd.assign rfl) (Seg.step rfl rfl (Yd.assign rfl) (Seg.step rfl rfl (Yd.assign rfl) (Seg.nil (At.then_ (Cd.seq ?_)))))))
    refine Cd.block (Cd.seq (Cd.region (Seg.step rfl rfl (Yd.move rfl) (Seg.step rfl rfl (Yd.lss rfl rfl) (Seg.step rfl rfl (Yd.assign rfl) (Seg.nil (At.then_ ?_)))))))
    refine Cd.condk rfl (fun h22 => ?_) (fun h22 => ?_)
    · exfalso; omega
    · refine Cd.seq (Cd.region (Seg.step rfl rfl (Yd.move rfl) (Seg.step rfl rfl (Yd.lss rfl rfl) (Seg.step rfl rfl (Yd.assign rfl) (Seg.nil (At.then_ ?_))))))
      refine Cd.condk rfl (fun h31 => ?_) (fun h31 => ?_)
      · exfalso; omega
      · refine Cd.seq (Cd.region (Seg.step rfl rfl (Yd.move rfl) (Seg.step rfl rfl (Yd.lss rfl rfl) (Seg.step rfl rfl (Yd.assign rfl) (Seg.nil (At.then_ ?_))))))
        refine Cd.condk rfl (fun h40 => ?_) (fun h40 => ?_)
        · exfalso; omega
        · refine Cd.seq (Cd.region (Seg.step rfl rfl (Yd.move rfl) (Seg.step rfl rfl (Yd.lss rfl rfl) (Seg.step rfl rfl (Yd.assign rfl) (Seg.nil (At.then_ ?_))))))
          refine Cd.condk rfl (fun h49 => ?_) (fun h49 => ?_)
          · exfalso; omega
          · refine Cd.seq (Cd.region (Seg.step rfl rfl (Yd.move rfl) (Seg.step rfl rfl (Yd.lss rfl rfl) (Seg.step rfl rfl (Yd.assign rfl) (Seg.nil (At.then_ ?_))))))
            refine Cd.condk rfl (fun h58 => ?_) (fun h58 => ?_)
            · refine Cd.seq (Cd.region (Seg.step rfl rfl (Yd.move rfl) ?_))
              (refine Seg.step rfl rfl (Yd.and rfl rfl) ?_; first | rw [and_31] | rw [and_15] | rw [and_7])
              (refine Seg.step rfl rfl (Yd.convN rfl rfl rfl (u8_i32 _ (by omega))) ?_)
              refine Seg.step rfl rfl (Yd.assign rfl) (Seg.step rfl rfl (Yd.assign rfl) (Seg.step rfl rfl (Yd.assign rfl) (Seg.nil (At.then_ (Cd.ret (At.blk_ret (At.then_ret ?_)))))))
              exact At.ret Tryz.results75 (.tmp rfl (.tmp rfl (.tmp rfl .nil))) ⟨rfl, hE0⟩
            · exfalso; omega
  · rw [key 0 0 0 (by unfold shp; rw [if_neg h1, if_neg h2, if_neg h3, if_neg h4, if_neg h5])]
    refine Cd.seq (Cd.region (Seg.step rfl rfl (Yd.assign rfl) (Seg.step rfl rfl (Yd.assign rfl) (Seg.step rfl rfl (Yd.assign rfl) (Seg.nil (At.then_ (Cd.seq ?_)))))))
    refine Cd.block (Cd.seq (Cd.region (Seg.step rfl rfl (Yd.move rfl) (Seg.step rfl rfl (Yd.lss rfl rfl) (Seg.step rfl rfl (Yd.assign rfl) (Seg.nil (At.then_ ?_)))))))
    refine Cd.condk rfl (fun h22 => ?_) (fun h22 => ?_)
    · exfalso; omega
    · refine Cd.seq (Cd.region (Seg.step rfl rfl (Yd.move rfl) (Seg.step rfl rfl (Yd.lss rfl rfl) (Seg.step rfl rfl (Yd.assign rfl) (Seg.nil (At.then_ ?_))))))
      refine Cd.condk rfl (fun h31 => ?_) (fun h31 => ?_)
      · exfalso; omega
      · refine Cd.seq (Cd.region (Seg.step rfl rfl (Yd.move rfl) (Seg.step rfl rfl (Yd.lss rfl rfl) (Seg.step rfl rfl (Yd.assign rfl) (Seg.nil (At.then_ ?_))))))
        refine Cd.condk rfl (fun h40 => ?_) (fun h40 => ?_)
        · exfalso; omega
        · refine Cd.seq (Cd.region (Seg.step rfl rfl (Yd.move rfl) (Seg.step rfl rfl (Yd.lss rfl rfl) (Seg.step rfl rfl (Yd.assign rfl) (Seg.nil (At.then_ ?_))))))
          refine Cd.condk rfl (fun h49 => ?_) (fun h49 => ?_)
          · exfalso; omega
          · refine Cd.seq (Cd.region (Seg.step rfl rfl (Yd.move rfl) (Seg.step rfl rfl (Yd.lss rfl rfl) (Seg.step rfl rfl (Yd.assign rfl) (Seg.nil (At.then_ ?_))))))
            refine Cd.condk rfl (fun h58 => ?_) (fun h58 => ?_)
            · exfalso; omega
            · refine Cd.skip (At.blk (At.then_ (Cd.seq (Cd.region (Seg.step rfl rfl (Yd.assign rfl) (Seg.step rfl rfl (Yd.assign rfl) (Seg.step rfl rfl (Yd.assign rfl) ?_)))))))
              refine Seg.nil (At.then_ (Cd.ret ?_))
              exact At.ret Tryz.results75 (.tmp rfl (.tmp rfl (.tmp rfl .nil))) ⟨rfl, hE0⟩
def contB (b : UInt8) : Prop := b.toNat / 64 = 2
instance (b : UInt8) : Decidable (contB b) := by unfold contB; infer_instance
theorem and_192 (b : UInt8) : bitsAnd .u8 (b.toNat : Int) 192 = ((b.toNat / 64 * 64 : Nat) : Int) := by
  have hb := byte_lt b
  have h : (List.range 256).all (fun n => bitsAnd .u8 (n : Int) 192 == ((n / 64 * 64 : Nat) : Int)) = true := by kernel_rfl
  exact eq_of_beq (List.all_eq_true.1 h b.toNat (List.mem_range.2 hb))
theorem and_63 (b : UInt8) : bitsAnd .u8 (b.toNat : Int) 63 = ((b.toNat % 64 : Nat) : Int) := by
  have hb := byte_lt b
  have := and_low (k := .u8) (a := b.toNat) (m := 6) hb (by decide)
  rw [u8_id (by omega) (by omega)] at this; exact this
def cpt (c : Nat) (l : List UInt8) : Nat := l.foldl (fun c b => c * 64 + b.toNat % 64) c
theorem cpt_snoc (c : Nat) (l : List UInt8) (b : UInt8) : cpt c (l ++ [b]) = cpt c l * 64 + b.toNat % 64 := by simp [cpt]
theorem cpt_lt : ∀ (l : List UInt8) (c : Nat), c < 64 → cpt c l < 64 ^ (l.length + 1) := by
  intro l
  have key : ∀ (l : List UInt8) (c k : Nat), c < 64 ^ k → cpt c l < 64 ^ (l.length + k) := by
    intro l
    induction l with
    | nil => intro c k h; simpa [cpt] using h
    | cons b l ih =>
      intro c k h
      have h2 : c * 64 + b.toNat % 64 < 64 ^ (k + 1) := by rw [Nat.pow_succ]; omega
      have := ih _ (k + 1) h2
      rw [List.length_cons, show l.length + 1 + k = l.length + (k + 1) by omega]
      exact this
  intro c h
  exact key l c 1 (by simpa using h)
/-- The bytes of a first point behind the first one. -/
def tailB (l : List UInt8) : List UInt8 := (l.drop 1).take ((shp (l.getD 0 0).toNat).1 - 1)
def cpB (l : List UInt8) : Nat := cpt (shp (l.getD 0 0).toNat).2.1 (tailB l)
/-- The point that bytes begin with, and how many they are. -/
def nextB (l : List UInt8) : Option (Nat × Nat) :=
  if l ≠ [] ∧ (shp (l.getD 0 0).toNat).1 ≠ 0 ∧ (shp (l.getD 0 0).toNat).1 ≤ l.length ∧ (∀ b ∈ tailB l, contB b) ∧ (shp (l.getD 0 0).toNat).2.2 ≤ cpB l ∧ pointI (cpB l : Int) then some (cpB l, (shp (l.getD 0 0).toNat).1) else none
def nextV : Option (Nat × Nat) → Value
  | some (c, n) => .tuple #[.int .i32 (c : Int), .int .i64 (n : Int), .bool true]
  | none => .tuple #[.int .i32 0, .int .i64 0, .bool false]
theorem shp_bd (b : Nat) : (shp b).1 ≤ 4 ∧ ((shp b).1 ≠ 1 → (shp b).2.1 < 64) ∧ ((shp b).1 = 1 → (shp b).2.1 = b ∧ b < 128 ∧ (shp b).2.2 = 0) ∧ (shp b).2.2 ≤ 65536 := by
  unfold shp
  split <;> (try split) <;> (try split) <;> (try split) <;> (try split) <;> simp <;> omega
theorem next_any (l : List UInt8) (w : World) (hl : l.length ≤ 1000000) : Ret Tryz.prog 58 #[.string ⟨l.toArray⟩] w fun v w' => v = nextV (nextB l) ∧ Ext w w' := by
  have hE0 := Ext.refl w
  refine Ret.body Tryz.func58 rfl Tryz.ntmps58 rfl ?_
  by_cases hl0 : l = []
  · have hn : nextB l = none := if_neg fun h => h.1 hl0
    subst hl0
    rw [hn]
    refine Cd.seq (Cd.region (Seg.step rfl rfl (Yd.assign rfl) (Seg.step rfl rfl (Yd.assign rfl) (Seg.step rfl rfl (Yd.assign rfl) (Seg.nil (At.then_ (Cd.seq ?_)))))))
    refine Cd.seq (Cd.region (Seg.step rfl rfl (Yd.move rfl) (Seg.step rfl rfl (Yd.eqlS rfl rfl) (Seg.nil (At.then_ (Cd.condT rfl (Cd.seq ?_)))))))
    refine Cd.region (Seg.step rfl rfl (Yd.assign rfl) (Seg.step rfl rfl (Yd.assign rfl) (Seg.step rfl rfl (Yd.assign rfl) (Seg.nil (At.then_ (Cd.ret (At.then_ret ?_)))))))
    exact At.ret Tryz.results58 (.tmp rfl (.tmp rfl (.tmp rfl .nil))) ⟨rfl, hE0⟩
  have hpos : 1 ≤ l.length := by
    cases l with
    | nil => exact absurd rfl hl0
    | cons => simp
  obtain ⟨b1, b2, b3, b4⟩ := shp_bd (l.getD 0 0).toNat
  have hsh : shpV (l.getD 0 0).toNat = .tuple #[.int .i64 ((shp (l.getD 0 0).toNat).1 : Nat), .int .i32 ((shp (l.getD 0 0).toNat).2.1 : Nat), .int .i32 ((shp (l.getD 0 0).toNat).2.2 : Nat)] := rfl
  obtain ⟨N, hN⟩ : ∃ N, N = (shp (l.getD 0 0).toNat).1 := ⟨_, rfl⟩
  obtain ⟨C, hC⟩ : ∃ C, C = (shp (l.getD 0 0).toNat).2.1 := ⟨_, rfl⟩
  obtain ⟨M, hM⟩ : ∃ M, M = (shp (l.getD 0 0).toNat).2.2 := ⟨_, rfl⟩
  rw [← hN] at b1 b2 b3
  rw [← hC] at b2 b3
  rw [← hM] at b3 b4
  rw [← hN, ← hC, ← hM] at hsh
  by_cases hN0 : N ≠ 0 ∧ N ≤ l.length
  · refine Cd.seq (Cd.region (Seg.step rfl rfl (Yd.assign rfl) (Seg.step rfl rfl (Yd.assign rfl) (Seg.step rfl rfl (Yd.assign rfl) (Seg.nil (At.then_ (Cd.seq ?_)))))))
    refine Cd.seq (Cd.region (Seg.step rfl rfl (Yd.move rfl) (Seg.step rfl rfl (Yd.eqlS rfl rfl) (Seg.nil (At.then_ ?_)))))
    refine Cd.condk rfl (fun h19 => ?_) (fun h19 => ?_)
    · contradiction
    refine Cd.skip (At.then_ (Cd.seq (Cd.region (Seg.step rfl rfl (Yd.move rfl) (Seg.step rfl rfl (Yd.indexStr rfl rfl rfl (NatOf.cast 0) (by omega)) ?_)))))
    (refine Seg.call rfl rfl (own_of rfl) rfl (shape_any _ _) ?_; rw [hsh]; rintro _ w27 ⟨rfl, hE27⟩)
    replace hE0 := Ext.trans hE0 hE27
    refine Seg.step rfl rfl (Yd.move rfl) (Seg.step rfl rfl (Yd.extract rfl rfl) (Seg.step rfl rfl (Yd.extract rfl rfl) (Seg.step rfl rfl (Yd.extract rfl rfl) (Seg.step rfl rfl (Yd.assign rfl) (Seg.step rfl rfl (Yd.assign rfl) (Seg.step rfl rfl (Yd.assign rfl) (Seg.nil ?_)))))))
    refine At.then_ (Cd.seq (Cd.seq (Cd.region (Seg.step rfl rfl (Yd.move rfl) (Seg.step rfl rfl (Yd.eql rfl rfl) (Seg.step rfl rfl (Yd.move rfl) ?_))))))
    refine Seg.gsplitp rfl rfl (fun h43 => ?_) (fun h43 => ?_)
    · exfalso; omega
    refine Seg.step rfl rfl (Yd.move rfl) (Seg.step rfl rfl (Yd.lenStr rfl rfl) (Seg.step rfl rfl (Yd.move rfl) (Seg.step rfl rfl (Yd.lss rfl rfl) (Seg.step rfl rfl (Yd.pickF rfl rfl) (Seg.nil (At.then_ ?_))))))
    refine Cd.condk rfl (fun h52 => ?_) (fun h52 => ?_)
    · exfalso; omega
    refine Cd.skip (At.then_ (Cd.seq (Cd.seq (Cd.region (Seg.step rfl rfl (Yd.assign rfl) (Seg.nil (At.then_ ?_)))))))
    refine Cd.block ?_
    have hTl : (tailB l).length = N - 1 := by unfold tailB; rw [← hN, List.length_take, List.length_drop]; omega
    refine Cd.loop (σ := Nat) (fun k => [(0, .string ⟨l.toArray⟩), (5, .int .i64 (N : Int)), (6, .int .i32 (cpt C ((tailB l).take k) : Nat)), (7, .int .i32 (M : Int)), (8, .int .i64 ((k : Int) + 1))])
      (fun k w' => k + 1 ≤ N ∧ (∀ b ∈ (tailB l).take k, contB b) ∧ Ext w w') (fun k => N - k) 0 (.cons rfl (.cons rfl (.cons rfl (.cons rfl (.cons rfl (.nil _)))))) ⟨by omega, fun b hb => by simp at hb, by assumption⟩ ?_
    clear hE0
    rintro k w1 ⟨hk, hT, hE0⟩
    have hk1 : ((k + 1 : Nat) : Int) = (k : Int) + 1 := by omega
    rw [← hk1]
    by_cases hlt : k + 1 < N
    · have hg : (tailB l).getD k 0 = l.getD (k + 1) 0 := by
        unfold tailB
        rw [← hN]
        have : ((l.drop 1).take (N - 1))[k]? = l[k + 1]? := by
          rw [List.getElem?_take, if_pos (by omega), List.getElem?_drop, Nat.add_comm]
        simp only [List.getD, this]
      have hmem : l.getD (k + 1) 0 ∈ tailB l := by rw [← hg]; exact List.mem_of_getElem? (getD_at (by omega))
      have htk := take_get (l := tailB l) (i := k) (by omega)
      rw [hg] at htk
      have hC64 : C < 64 := b2 (by omega)
      have hcl := cpt_lt ((tailB l).take k) C hC64
      have hc3 : 64 ^ (((tailB l).take k).length + 1) ≤ 64 ^ 3 := Nat.pow_le_pow_right (by decide) (by rw [List.length_take]; omega)
      have hc4 : cpt C ((tailB l).take k) < 262144 := Nat.lt_of_lt_of_le hcl hc3
      have hb := byte_lt (l.getD (k + 1) 0)
      by_cases hc : contB (l.getD (k + 1) 0)
      · have hcn : (l.getD (k + 1) 0).toNat / 64 = 2 := hc
        have hT' : ∀ b ∈ (tailB l).take (k + 1), contB b := fun b hb => by
          rw [htk] at hb
          rcases List.mem_append.1 hb with hb | hb
          · exact hT b hb
          · rw [List.mem_singleton.1 hb]; exact hc
        have hor : bitsOr .i32 ((cpt C ((tailB l).take k) : Int) * 2 ^ 6) (((l.getD (k + 1) 0).toNat % 64 : Nat) : Int) = (cpt C ((tailB l).take (k + 1)) : Int) := by
          have e : ((cpt C ((tailB l).take k) : Int) * 2 ^ 6) = ((cpt C ((tailB l).take k) * 2 ^ 6 : Nat) : Int) := by omega
          rw [e, bitsOr_nat (by show _ < 2 ^ 32; omega) (by show _ < 2 ^ 32; omega), or_low (by omega), htk, cpt_snoc]
          exact IntWalk.i32_in _ ⟨by omega, by omega⟩
        have hw : IntKind.i32.wrap ((cpt C ((tailB l).take k) : Int) * 2 ^ 6) = (cpt C ((tailB l).take k) : Int) * 2 ^ 6 := IntWalk.i32_in _ ⟨by omega, by omega⟩
        have kor : Keep (bitsOr .i32 ((cpt C ((tailB l).take k) : Int) * 2 ^ 6) (((l.getD (k + 1) 0).toNat % 64 : Nat) : Int) = (cpt C ((tailB l).take (k + 1)) : Int)) := hor
        have kw : Keep (IntKind.i32.wrap ((cpt C ((tailB l).take k) : Int) * 2 ^ 6) = (cpt C ((tailB l).take k) : Int) * 2 ^ 6) := hw
        clear hor hw
        refine Cd.seq (Cd.seq (Cd.region (Seg.step rfl rfl (Yd.move rfl) (Seg.step rfl rfl (Yd.move rfl) (Seg.step rfl rfl (Yd.lss rfl rfl) (Seg.nil (At.then_ ?_)))))))
        refine Cd.condk rfl (fun h73 => ?_) (fun h73 => ?_)
        · refine Cd.skip (At.then_ (Cd.seq (Cd.block (Cd.seq (Cd.seq (Cd.region (Seg.step rfl rfl (Yd.move rfl) ?_)))))))
          refine Seg.step rfl rfl (Yd.move rfl) (Seg.step rfl rfl (Yd.indexStr rfl rfl rfl (NatOf.cast _) (by omega)) ?_)
          first | (refine Seg.step rfl rfl (Yd.and rfl rfl) ?_; first | rw [and_192] | rw [and_63]) | refine Seg.step rfl rfl (Yd.shl (by decide) rfl rfl rfl kw) ?_ | (refine Seg.step rfl rfl (Yd.or rfl rfl) ?_; rw [show _ = _ from kor])
          refine Seg.step rfl rfl (Yd.neq rfl rfl) (Seg.nil (At.then_ ?_))
          refine Cd.condk rfl (fun h89 => ?_) (fun h89 => ?_)
          · exfalso; omega
          · refine Cd.skip (At.then_ (Cd.region (Seg.step rfl rfl (Yd.move rfl) ?_)))
            first | (refine Seg.step rfl rfl (Yd.and rfl rfl) ?_; first | rw [and_192] | rw [and_63]) | refine Seg.step rfl rfl (Yd.shl (by decide) rfl rfl rfl kw) ?_ | (refine Seg.step rfl rfl (Yd.or rfl rfl) ?_; rw [show _ = _ from kor])
            refine Seg.step rfl rfl (Yd.move rfl) (Seg.step rfl rfl (Yd.move rfl) (Seg.step rfl rfl (Yd.indexStr rfl rfl rfl (NatOf.cast _) (by omega)) ?_))
            first | (refine Seg.step rfl rfl (Yd.and rfl rfl) ?_; first | rw [and_192] | rw [and_63]) | refine Seg.step rfl rfl (Yd.shl (by decide) rfl rfl rfl kw) ?_ | (refine Seg.step rfl rfl (Yd.or rfl rfl) ?_; rw [show _ = _ from kor])
            (refine Seg.step rfl rfl (Yd.convN rfl rfl rfl (u8_i32 _ (by omega))) ?_)
            first | (refine Seg.step rfl rfl (Yd.and rfl rfl) ?_; first | rw [and_192] | rw [and_63]) | refine Seg.step rfl rfl (Yd.shl (by decide) rfl rfl rfl kw) ?_ | (refine Seg.step rfl rfl (Yd.or rfl rfl) ?_; rw [show _ = _ from kor])
            refine Seg.step rfl rfl (Yd.assign rfl) (Seg.nil (At.blk (At.then_ (Cd.region (Seg.step rfl rfl (Yd.move rfl) (Seg.step rfl rfl (Yd.addI rfl rfl (by omega)) (Seg.step rfl rfl (Yd.assign rfl) ?_)))))))
            refine Seg.nil ?_
            exact At.round (k + 1) (.cons rfl (.cons rfl (.cons rfl (.cons rfl (.cons rfl (.nil _)))))) ⟨hlt, hT', hE0⟩ (Nat.sub_lt_sub_left (Nat.lt_of_succ_lt hlt) (Nat.lt_succ_self k))
        · exfalso; omega
      · have hn : nextB l = none := if_neg fun h => hc (h.2.2.2.1 _ hmem)
        have hcn : ¬ (l.getD (k + 1) 0).toNat / 64 = 2 := hc
        rw [hn]
        refine Cd.seq (Cd.seq (Cd.region (Seg.step rfl rfl (Yd.move rfl) (Seg.step rfl rfl (Yd.move rfl) (Seg.step rfl rfl (Yd.lss rfl rfl) (Seg.nil (At.then_ ?_)))))))
        refine Cd.condk rfl (fun h73 => ?_) (fun h73 => ?_)
        · refine Cd.skip (At.then_ (Cd.seq (Cd.block (Cd.seq (Cd.seq (Cd.region (Seg.step rfl rfl (Yd.move rfl) ?_)))))))
          refine Seg.step rfl rfl (Yd.move rfl) (Seg.step rfl rfl (Yd.indexStr rfl rfl rfl (NatOf.cast _) (by omega)) ?_)
          (refine Seg.step rfl rfl (Yd.and rfl rfl) ?_; first | rw [and_192] | rw [and_63])
          refine Seg.step rfl rfl (Yd.neq rfl rfl) (Seg.nil (At.then_ ?_))
          refine Cd.condk rfl (fun h89 => ?_) (fun h89 => ?_)
          · refine Cd.seq (Cd.region (Seg.step rfl rfl (Yd.assign rfl) (Seg.step rfl rfl (Yd.assign rfl) (Seg.step rfl rfl (Yd.assign rfl) (Seg.nil (At.then_ (Cd.ret ?_)))))))
            refine At.then_ret (At.blk_ret (At.then_ret (At.then_ret (At.blk_ret (At.then_ret ?_)))))
            exact At.ret Tryz.results58 (.tmp rfl (.tmp rfl (.tmp rfl .nil))) ⟨rfl, hE0⟩
          · exfalso; omega
        · exfalso; omega
    · have hkl : (tailB l).take k = tailB l := List.take_of_length_le (by omega)
      rw [hkl] at hT ⊢
      have hcp : cpt C (tailB l) = cpB l := by unfold cpB; rw [← hC]
      rw [hcp]
      by_cases hok : M ≤ cpB l ∧ pointI (cpB l : Int)
      · have hn : nextB l = some (cpB l, N) := by
          unfold nextB
          rw [if_pos ⟨hl0, by rw [← hN]; exact hN0.1, by rw [← hN]; exact hN0.2, hT, by rw [← hM]; exact hok.1, hok.2⟩, ← hN]
        rw [hn]
        have hd : decide (pointI (cpB l : Int)) = true := decide_eq_true hok.2
        have hok1 := hok.1
        refine Cd.seq (Cd.seq (Cd.region (Seg.step rfl rfl (Yd.move rfl) (Seg.step rfl rfl (Yd.move rfl) (Seg.step rfl rfl (Yd.lss rfl rfl) (Seg.nil (At.then_ ?_)))))))
        refine Cd.condk rfl (fun h61 => ?_) (fun h61 => ?_)
        · exfalso; omega
        · refine Cd.exit (At.then_exit (At.then_exit (At.blk_same (At.then_ (Cd.seq (Cd.seq (Cd.region ?_)))))))
          refine Seg.step rfl rfl (Yd.move rfl) (Seg.step rfl rfl (Yd.move rfl) (Seg.step rfl rfl (Yd.lss rfl rfl) (Seg.step rfl rfl (Yd.move rfl) ?_)))
          refine Seg.gsplitp rfl rfl (fun h75 => ?_) (fun h75 => ?_)
          · exfalso; omega
          · refine Seg.step rfl rfl (Yd.move rfl) ?_
            (refine Seg.call rfl rfl (own_of rfl) rfl (upoint_any _ _) ?_; rw [hd]; rintro _ w78 ⟨rfl, hE78⟩)
            replace hE0 := Ext.trans hE0 hE78
            refine Seg.step rfl rfl (Yd.not rfl) (Seg.step rfl rfl (Yd.pickF rfl rfl) (Seg.nil (At.then_ (Cd.condF rfl (Cd.skip (At.then_ (Cd.seq ?_)))))))
            refine Cd.region (Seg.step rfl rfl (Yd.move rfl) (Seg.step rfl rfl (Yd.move rfl) (Seg.step rfl rfl (Yd.assign rfl) (Seg.step rfl rfl (Yd.assign rfl) (Seg.step rfl rfl (Yd.assign rfl) (Seg.nil (At.then_ ?_)))))))
            refine Cd.ret ?_
            exact At.ret Tryz.results58 (.tmp rfl (.tmp rfl (.tmp rfl .nil))) ⟨rfl, hE0⟩
      · have hn : nextB l = none := if_neg fun h => hok ⟨by rw [hM]; exact h.2.2.2.2.1, h.2.2.2.2.2⟩
        rw [hn]
        by_cases hm : M ≤ cpB l
        · have hd : decide (pointI (cpB l : Int)) = false := decide_eq_false fun h => hok ⟨hm, h⟩
          refine Cd.seq (Cd.seq (Cd.region (Seg.step rfl rfl (Yd.move rfl) (Seg.step rfl rfl (Yd.move rfl) (Seg.step rfl rfl (Yd.lss rfl rfl) (Seg.nil (At.then_ ?_)))))))
          refine Cd.condk rfl (fun h61 => ?_) (fun h61 => ?_)
          · exfalso; omega
          · refine Cd.exit (At.then_exit (At.then_exit (At.blk_same (At.then_ (Cd.seq (Cd.seq (Cd.region ?_)))))))
            refine Seg.step rfl rfl (Yd.move rfl) (Seg.step rfl rfl (Yd.move rfl) (Seg.step rfl rfl (Yd.lss rfl rfl) (Seg.step rfl rfl (Yd.move rfl) ?_)))
            refine Seg.gsplitp rfl rfl (fun h75 => ?_) (fun h75 => ?_)
            · exfalso; omega
            · refine Seg.step rfl rfl (Yd.move rfl) ?_
              (refine Seg.call rfl rfl (own_of rfl) rfl (upoint_any _ _) ?_; rw [hd]; rintro _ w78 ⟨rfl, hE78⟩)
              replace hE0 := Ext.trans hE0 hE78
              refine Seg.step rfl rfl (Yd.not rfl) (Seg.step rfl rfl (Yd.pickF rfl rfl) (Seg.nil (At.then_ (Cd.condT rfl (Cd.seq (Cd.region (Seg.step rfl rfl (Yd.assign rfl) ?_)))))))
              refine Seg.step rfl rfl (Yd.assign rfl) (Seg.step rfl rfl (Yd.assign rfl) (Seg.nil (At.then_ (Cd.ret (At.then_ret ?_)))))
              exact At.ret Tryz.results58 (.tmp rfl (.tmp rfl (.tmp rfl .nil))) ⟨rfl, hE0⟩
        · refine Cd.seq (Cd.seq (Cd.region (Seg.step rfl rfl (Yd.move rfl) (Seg.step rfl rfl (Yd.move rfl) (Seg.step rfl rfl (Yd.lss rfl rfl) (Seg.nil (At.then_ ?_)))))))
          refine Cd.condk rfl (fun h61 => ?_) (fun h61 => ?_)
          · exfalso; omega
          · refine Cd.exit (At.then_exit (At.then_exit (At.blk_same (At.then_ (Cd.seq (Cd.seq (Cd.region ?_)))))))
            refine Seg.step rfl rfl (Yd.move rfl) (Seg.step rfl rfl (Yd.move rfl) (Seg.step rfl rfl (Yd.lss rfl rfl) (Seg.step rfl rfl (Yd.move rfl) ?_)))
            refine Seg.gsplitp rfl rfl (fun h75 => ?_) (fun h75 => ?_)
            · refine Seg.skip rfl rfl (Seg.skip rfl rfl (Seg.skip rfl rfl (Seg.step rfl rfl (Yd.pickT rfl rfl) (Seg.nil (At.then_ (Cd.condT rfl (Cd.seq ?_)))))))
              refine Cd.region (Seg.step rfl rfl (Yd.assign rfl) (Seg.step rfl rfl (Yd.assign rfl) (Seg.step rfl rfl (Yd.assign rfl) (Seg.nil (At.then_ (Cd.ret (At.then_ret ?_)))))))
              exact At.ret Tryz.results58 (.tmp rfl (.tmp rfl (.tmp rfl .nil))) ⟨rfl, hE0⟩
            · exfalso; omega
  · have hn : nextB l = none := if_neg fun h => hN0 (by rw [hN]; exact ⟨h.2.1, h.2.2.1⟩)
    rw [hn]
    refine Cd.seq (Cd.region (Seg.step rfl rfl (Yd.assign rfl) (Seg.step rfl rfl (Yd.assign rfl) (Seg.step rfl rfl (Yd.assign rfl) (Seg.nil (At.then_ (Cd.seq ?_)))))))
    refine Cd.seq (Cd.region (Seg.step rfl rfl (Yd.move rfl) (Seg.step rfl rfl (Yd.eqlS rfl rfl) (Seg.nil (At.then_ ?_)))))
    refine Cd.condk rfl (fun h19 => ?_) (fun h19 => ?_)
    · contradiction
    · refine Cd.skip (At.then_ (Cd.seq (Cd.region (Seg.step rfl rfl (Yd.move rfl) (Seg.step rfl rfl (Yd.indexStr rfl rfl rfl (NatOf.cast 0) (by omega)) ?_)))))
      (refine Seg.call rfl rfl (own_of rfl) rfl (shape_any _ _) ?_; rw [hsh]; rintro _ w27 ⟨rfl, hE27⟩)
      replace hE0 := Ext.trans hE0 hE27
      refine Seg.step rfl rfl (Yd.move rfl) (Seg.step rfl rfl (Yd.extract rfl rfl) (Seg.step rfl rfl (Yd.extract rfl rfl) (Seg.step rfl rfl (Yd.extract rfl rfl) (Seg.step rfl rfl (Yd.assign rfl) (Seg.step rfl rfl (Yd.assign rfl) (Seg.step rfl rfl (Yd.assign rfl) (Seg.nil ?_)))))))
      refine At.then_ (Cd.seq (Cd.seq (Cd.region (Seg.step rfl rfl (Yd.move rfl) (Seg.step rfl rfl (Yd.eql rfl rfl) (Seg.step rfl rfl (Yd.move rfl) ?_))))))
      refine Seg.gsplitp rfl rfl (fun h43 => ?_) (fun h43 => ?_)
      · refine Seg.skip rfl rfl (Seg.skip rfl rfl (Seg.skip rfl rfl (Seg.skip rfl rfl (Seg.step rfl rfl (Yd.pickT rfl rfl) (Seg.nil (At.then_ (Cd.condT rfl ?_)))))))
        refine Cd.seq (Cd.region (Seg.step rfl rfl (Yd.assign rfl) (Seg.step rfl rfl (Yd.assign rfl) (Seg.step rfl rfl (Yd.assign rfl) (Seg.nil (At.then_ (Cd.ret ?_)))))))
        refine At.then_ret ?_
        exact At.ret Tryz.results58 (.tmp rfl (.tmp rfl (.tmp rfl .nil))) ⟨rfl, hE0⟩
      · refine Seg.step rfl rfl (Yd.move rfl) (Seg.step rfl rfl (Yd.lenStr rfl rfl) (Seg.step rfl rfl (Yd.move rfl) (Seg.step rfl rfl (Yd.lss rfl rfl) (Seg.step rfl rfl (Yd.pickF rfl rfl) (Seg.nil (At.then_ ?_))))))
        refine Cd.condk rfl (fun h71 => ?_) (fun h71 => ?_)
        · refine Cd.seq (Cd.region (Seg.step rfl rfl (Yd.assign rfl) (Seg.step rfl rfl (Yd.assign rfl) (Seg.step rfl rfl (Yd.assign rfl) (Seg.nil (At.then_ (Cd.ret ?_)))))))
          refine At.then_ret ?_
          exact At.ret Tryz.results58 (.tmp rfl (.tmp rfl (.tmp rfl .nil))) ⟨rfl, hE0⟩
        · exfalso; omega
def r32 (l : List Nat) : List Value := l.map fun (c : Nat) => Value.int .i32 (c : Int)
theorem r32_one (l : List Nat) : ∀ c ∈ r32 l, c.oneCell' = true := by
  intro c hc
  obtain ⟨x, _, rfl⟩ := List.mem_map.1 hc
  rfl
theorem r32_append (l m : List Nat) : r32 (l ++ m) = r32 l ++ r32 m := by simp [r32]
abbrev OwnR (w : World) (base : Nat) (v : Value) (l : List Nat) : Prop := w.ownsRow base 21 1 v l.length (r32 l)
theorem ownr_snoc {w : World} {base : Nat} {v : Value} {l m : List Nat} (h : w.ownsRow base 21 (0 + 1) v (l.length + m.length) (r32 l ++ r32 m)) : OwnR w base v (l ++ m) := by
  unfold OwnR
  rw [List.length_append, r32_append]; exact h
/-- 'append' onto points of one's own. -/
theorem Seg.appR {n : Fm} {ops : Array Oper} {Q : Exit → Act → World → Prop} {fr : Fr} {w : World} {T : TypeId} {d U base : Nat} {x y : Operand} {pos : String} {aft : Array Edge} {g : Option (Nat × Bool)} {rest : List Oper} {v u : Value} {X m : List Nat}
    (hg : gd ops fr g = some true) (hd : Nat.blt d n.n = true) (hU : slOf Tryz.prog U = some (21, 0 + 1)) (hx : Fr.ev fr x = some v) (hy : Fr.ev fr y = some u) (ho : OwnR w base v X) (hs : Sl w (0 + 1) u m.length (r32 m)) (hb : base ≤ w.heap.size) (hl : X.length + m.length ≤ 100000000)
    (k : ∀ v' w1, OwnR w1 base v' (X ++ m) → w.grownBy w1 v.ownBlock → (∀ a0 : World, Ext a0 w → a0.heap.size ≤ base → Ext a0 w1) → w.heap.size ≤ w1.heap.size → (v'.ownBlock = v.ownBlock ∨ v'.ownBlock = some w.heap.size) → Seg Tryz.prog n ops Q rest ((d, v') :: fr) w1) :
    Seg Tryz.prog n ops Q (⟨some d, .call ⟨.builtin .append, #[x, y], #[U, U]⟩, T, pos, aft, g⟩ :: rest) fr w :=
  Seg.appendAt (xs := r32 X) (news := r32 m) hg hd hU rfl rfl rfl rfl hx hy ho hs (r32_one m) hb hl rfl fun v' w1 hN hG hA =>
    k v' w1 (ownr_snoc hN) hG (fun _ hE h => Ext.own hE ho h hG) hG.size hA
theorem nextB_pos {l : List UInt8} {c n : Nat} (h : nextB l = some (c, n)) : 1 ≤ n ∧ n ≤ l.length ∧ n ≤ 4 ∧ pointI (c : Int) := by
  unfold nextB at h
  split at h
  · rename_i hh
    cases h
    exact ⟨Nat.pos_of_ne_zero hh.2.1, hh.2.2.1, (shp_bd _).1, hh.2.2.2.2.2⟩
  · cases h
/-- The points that bytes are. -/
def runesF : Nat → List UInt8 → Option (List Nat)
  | 0, l => if l = [] then some [] else none
  | k + 1, l => if l = [] then some [] else match nextB l with
    | some (c, n) => (runesF k (l.drop n)).map (c :: ·)
    | none => none
def runesB (l : List UInt8) : Option (List Nat) := runesF l.length l
theorem runesF_more : ∀ (k : Nat) (l : List UInt8), l.length ≤ k → runesF k l = runesF l.length l
  | 0, l, h => by
    have : l.length = 0 := by omega
    rw [this]
  | k + 1, [], _ => rfl
  | k + 1, b :: l, h => by
    show runesF (k + 1) (b :: l) = runesF (l.length + 1) (b :: l)
    unfold runesF
    rw [if_neg (by simp), if_neg (by simp)]
    cases hn : nextB (b :: l) with
    | none => rfl
    | some p =>
      obtain ⟨c, n⟩ := p
      obtain ⟨h1, h2, _⟩ := nextB_pos hn
      simp only [List.length_cons] at h h2
      have hl : ((b :: l).drop n).length ≤ l.length := by rw [List.length_drop, List.length_cons]; omega
      simp only
      rw [runesF_more k _ (by omega)]
      have e : runesF l.length ((b :: l).drop n) = runesF ((b :: l).drop n).length ((b :: l).drop n) := runesF_more' _ _ hl
      rw [e]
  where
  runesF_more' (k : Nat) (l : List UInt8) (h : l.length ≤ k) : runesF k l = runesF l.length l := runesF_more k l h
theorem runesB_nil : runesB [] = some [] := rfl
theorem runesB_step {l : List UInt8} (hl : l ≠ []) : runesB l = match nextB l with
    | some (c, n) => (runesB (l.drop n)).map (c :: ·)
    | none => none := by
  cases l with
  | nil => exact absurd rfl hl
  | cons b l =>
    unfold runesB
    show runesF (l.length + 1) (b :: l) = _
    conv => lhs; unfold runesF
    rw [if_neg (by simp)]
    cases hn : nextB (b :: l) with
    | none => rfl
    | some p =>
      obtain ⟨c, n⟩ := p
      obtain ⟨h1, h2, _⟩ := nextB_pos hn
      simp only [List.length_cons] at h2 ⊢
      rw [runesF_more l.length _ (by rw [List.length_drop, List.length_cons]; omega)]
structure RnS where
  s : List UInt8
  acc : List Nat
  v : Value
theorem runes_any (l : List UInt8) (w : World) (hl : l.length ≤ 1000000) : Ret Tryz.prog 36 #[.string ⟨l.toArray⟩] w fun v w' =>
    (match runesB l with
      | some ps => ∃ u, v = .tuple #[u, .int .i64 0] ∧ OwnR w' w.heap.size u ps
      | none => v = .tuple #[.slice none 0 0, .int .i64 5]) ∧ Ext w w' := by
  have hE0 := Ext.refl w
  refine Ret.body Tryz.func36 rfl Tryz.ntmps36 rfl (Cd.seq (Cd.region (Seg.step rfl rfl (Yd.assign rfl) (Seg.step rfl rfl (Yd.assign rfl) (Seg.nil (At.then_ (Cd.seq ?_)))))))
  refine Cd.region (Seg.step rfl rfl (Yd.assign rfl) (Seg.nil (At.then_ (Cd.seq (Cd.block ?_)))))
  refine Cd.loop (σ := RnS) (fun t => [(0, .string ⟨t.s.toArray⟩), (4, t.v)])
    (fun t w' => t.s.length + t.acc.length ≤ l.length ∧ runesB l = (runesB t.s).map (t.acc ++ ·) ∧ OwnR w' w.heap.size t.v t.acc ∧ Ext w w') (fun t => t.s.length) ⟨l, [], .slice none 0 0⟩ (.cons rfl (.cons rfl (.nil _)))
    ⟨by simp, by cases runesB l <;> simp, World.ownsRow_nil _ _ _ _, hE0⟩ ?_
  clear hE0
  rintro ⟨s, acc, v⟩ w1 ⟨hlen, hR, hO, hE1⟩
  simp only at hlen hR hO ⊢
  have kO : Keep (OwnR w1 w.heap.size v acc) := hO
  have kE1 : Keep (Ext w w1) := hE1
  have hEn := Ext.refl w1
  clear hO
  by_cases hs : s = []
  · subst hs
    rw [hR, runesB_nil]
    refine Cd.seq (Cd.seq (Cd.region (Seg.step rfl rfl (Yd.move rfl) (Seg.step rfl rfl (Yd.neqS rfl rfl) (Seg.nil (At.then_ (Cd.condF rfl ?_)))))))
    refine Cd.exit (At.then_exit (At.then_exit (At.blk_same (At.then_ (Cd.seq (Cd.region (Seg.step rfl rfl (Yd.move rfl) ?_)))))))
    refine Seg.step rfl rfl (Yd.assign rfl) (Seg.step rfl rfl (Yd.assign rfl) (Seg.nil (At.then_ (Cd.ret ?_))))
    exact At.ret Tryz.results36 (.tmp rfl (.tmp rfl .nil)) ⟨⟨_, rfl, by simpa using own_ext kO hEn⟩, Ext.trans kE1 hEn⟩
  · cases hn : nextB s with
    | none =>
      have hRn : runesB l = none := by rw [hR, runesB_step hs, hn]; rfl
      rw [hRn]
      refine Cd.seq (Cd.seq (Cd.region (Seg.step rfl rfl (Yd.move rfl) (Seg.step rfl rfl (Yd.neqS rfl rfl) (Seg.nil (At.then_ ?_))))))
      refine Cd.condk rfl (fun h9 => ?_) (fun h9 => ?_)
      · refine Cd.skip (At.then_ (Cd.block (Cd.seq (Cd.region (Seg.step rfl rfl (Yd.move rfl) ?_)))))
        (refine Seg.call rfl rfl (own_of rfl) rfl (next_any s _ (by omega)) ?_; rw [hn]; rintro _ w17 ⟨rfl, hE17⟩)
        replace hE1 := Ext.trans hE1 hE17
        replace hEn := Ext.trans hEn hE17
        refine Seg.step rfl rfl (Yd.move rfl) (Seg.step rfl rfl (Yd.extract rfl rfl) (Seg.step rfl rfl (Yd.extract rfl rfl) (Seg.step rfl rfl (Yd.extract rfl rfl) (Seg.step rfl rfl (Yd.assign rfl) (Seg.step rfl rfl (Yd.assign rfl) (Seg.step rfl rfl (Yd.assign rfl) (Seg.nil ?_)))))))
        refine At.then_ (Cd.seq (Cd.seq (Cd.region (Seg.step rfl rfl (Yd.move rfl) (Seg.step rfl rfl (Yd.not rfl) (Seg.nil (At.then_ ?_)))))))
        refine Cd.condT rfl (Cd.seq (Cd.region (Seg.step rfl rfl (Yd.assign rfl) (Seg.step rfl rfl (Yd.assign rfl) (Seg.nil (At.then_ (Cd.ret ?_)))))))
        refine At.then_ret (At.blk_ret (At.then_ret (At.blk_ret (At.then_ret ?_))))
        exact At.ret Tryz.results36 (.tmp rfl (.tmp rfl .nil)) ⟨rfl, Ext.trans kE1 hEn⟩
      · contradiction
    | some p =>
      obtain ⟨c, m⟩ := p
      obtain ⟨m1, m2, m4, hpt⟩ := nextB_pos hn
      have hR' : runesB l = (runesB (s.drop m)).map ((acc ++ [c]) ++ ·) := by
        rw [hR, runesB_step hs, hn]
        show ((runesB (s.drop m)).map (c :: ·)).map (acc ++ ·) = _
        cases runesB (s.drop m) <;> simp
      refine Cd.seq (Cd.seq (Cd.region (Seg.step rfl rfl (Yd.move rfl) (Seg.step rfl rfl (Yd.neqS rfl rfl) (Seg.nil (At.then_ ?_))))))
      refine Cd.condk rfl (fun h9 => ?_) (fun h9 => ?_)
      · refine Cd.skip (At.then_ (Cd.block (Cd.seq (Cd.region (Seg.step rfl rfl (Yd.move rfl) ?_)))))
        (refine Seg.call rfl rfl (own_of rfl) rfl (next_any s _ (by omega)) ?_; rw [hn]; rintro _ w17 ⟨rfl, hE17⟩)
        replace hE1 := Ext.trans hE1 hE17
        replace hEn := Ext.trans hEn hE17
        refine Seg.step rfl rfl (Yd.move rfl) (Seg.step rfl rfl (Yd.extract rfl rfl) (Seg.step rfl rfl (Yd.extract rfl rfl) (Seg.step rfl rfl (Yd.extract rfl rfl) (Seg.step rfl rfl (Yd.assign rfl) (Seg.step rfl rfl (Yd.assign rfl) (Seg.step rfl rfl (Yd.assign rfl) (Seg.nil ?_)))))))
        refine At.then_ (Cd.seq (Cd.seq (Cd.region (Seg.step rfl rfl (Yd.move rfl) (Seg.step rfl rfl (Yd.not rfl) (Seg.nil (At.then_ ?_)))))))
        refine Cd.condF rfl (Cd.skip (At.then_ (Cd.seq (Cd.region (Seg.step rfl rfl (Yd.move rfl) (Seg.step rfl rfl (Yd.move rfl) (Seg.buildSliceV rfl rfl rfl rfl rfl rfl rfl rfl rfl rfl (fun w41 b41 hE41 hB41 hb41 hO41 => ?_))))))))
        have hlt41_0 := Nat.le_trans hE17.size hb41
        have hlt41_1 := Nat.le_trans hE1.size hb41
        have hlt41_2 := Nat.le_trans hEn.size hb41
        replace hE17 := Ext.trans hE17 hE41
        replace hE1 := Ext.trans hE1 hE41
        replace hEn := Ext.trans hEn hE41
        (refine Seg.appR (m := [c]) rfl rfl rfl rfl rfl (own_ext kO hEn) (own_sl (by assumption)) (Below.size (Ext.trans kE1 hEn)) (by show _ + 1 ≤ _; omega) (fun v42 w42 hO42 _ hX42 hS42 _ => ?_); have hE3 := hX42 w (Ext.trans kE1 hEn) (Nat.le_refl _))
        refine Seg.step rfl rfl (Yd.assign rfl) (Seg.nil (At.then_ (Cd.region (Seg.step rfl rfl (Yd.move rfl) (Seg.step rfl rfl (Yd.move rfl) (Seg.step rfl rfl (Yd.slStrL rfl rfl rfl (NatOf.cast _) (by omega)) (Seg.step rfl rfl (Yd.assign rfl) ?_)))))))
        refine Seg.nil (At.blk ?_)
        exact At.round (⟨s.drop m, acc ++ [c], _⟩ : RnS) (.cons rfl (.cons rfl (.nil _))) ⟨by simp only [List.length_drop, List.length_append, List.length_cons, List.length_nil]; omega, hR', by assumption, hE3⟩ (by simp only [List.length_drop]; omega)
      · contradiction
/-- A point's bytes. -/
def encB (c : Nat) : List UInt8 :=
  if c < 128 then [UInt8.ofNat c] else if c < 2048 then [UInt8.ofNat (192 + c / 64), UInt8.ofNat (128 + c % 64)]
  else if c < 65536 then [UInt8.ofNat (224 + c / 4096), UInt8.ofNat (128 + c / 64 % 64), UInt8.ofNat (128 + c % 64)]
  else [UInt8.ofNat (240 + c / 262144), UInt8.ofNat (128 + c / 4096 % 64), UInt8.ofNat (128 + c / 64 % 64), UInt8.ofNat (128 + c % 64)]
theorem encB_len (c : Nat) : 1 ≤ (encB c).length ∧ (encB c).length ≤ 4 := by unfold encB; split <;> (try split) <;> (try split) <;> simp
theorem i32_and63 (k : Nat) (h : k < 2147483648) : bitsAnd .i32 (k : Int) 63 = ((k % 64 : Nat) : Int) := by
  have := and_low (k := .i32) (a := k) (m := 6) (by show _ < 2 ^ 32; omega) (by decide)
  rw [IntWalk.i32_in _ ⟨by omega, by omega⟩] at this; exact this
theorem i32_or (a m x : Nat) (h : x < 2 ^ m) (hb : a * 2 ^ m + x < 2147483648) : bitsOr .i32 ((a * 2 ^ m : Nat) : Int) (x : Int) = ((a * 2 ^ m + x : Nat) : Int) := by
  rw [bitsOr_nat (by show _ < 2 ^ 32; omega) (by show _ < 2 ^ 32; omega), or_low h]
  exact IntWalk.i32_in _ ⟨by omega, by omega⟩
theorem or128 (x : Nat) (h : x < 64) : bitsOr .i32 128 (x : Int) = ((128 + x : Nat) : Int) := i32_or 2 6 x h (by omega)
theorem or192 (x : Nat) (h : x < 64) : bitsOr .i32 192 (x : Int) = ((192 + x : Nat) : Int) := i32_or 3 6 x h (by omega)
theorem or224 (x : Nat) (h : x < 32) : bitsOr .i32 224 (x : Int) = ((224 + x : Nat) : Int) := i32_or 7 5 x h (by omega)
theorem or240 (x : Nat) (h : x < 16) : bitsOr .i32 240 (x : Int) = ((240 + x : Nat) : Int) := i32_or 15 4 x h (by omega)
theorem shr6 (k : Nat) : (k : Int) / 2 ^ 6 = ((k / 64 : Nat) : Int) := rfl
theorem shr12 (k : Nat) : (k : Int) / 2 ^ 12 = ((k / 4096 : Nat) : Int) := rfl
theorem shr18 (k : Nat) : (k : Int) / 2 ^ 18 = ((k / 262144 : Nat) : Int) := rfl
def i32V (l : List Int) : List Value := l.map fun (c : Int) => Value.int .i32 c
def encL (l : List Int) : List UInt8 := l.flatMap fun c => encB c.toNat
def allPt (l : List Int) : Prop := ∀ c ∈ l, pointI c
instance (l : List Int) : Decidable (allPt l) := by unfold allPt; infer_instance
theorem encL_take {l : List Int} {i : Nat} {c : Int} (h : l[i]? = some c) : encL (l.take (i + 1)) = encL (l.take i) ++ encB c.toNat := by
  unfold encL
  rw [List.take_add_one, h, List.flatMap_append]
  simp
theorem encL_len (l : List Int) : (encL l).length ≤ 4 * l.length := by
  unfold encL
  induction l with
  | nil => simp
  | cons c l ih =>
    have := (encB_len c.toNat).2
    rw [List.flatMap_cons, List.length_append, List.length_cons]
    omega
theorem next_enc {c : Nat} (hp : pointI (c : Int)) (r : List UInt8) : nextB (encB c ++ r) = some (c, (encB c).length) := by
  obtain ⟨_, p2, p3⟩ := hp
  have key : ∀ (l : List UInt8) (n C m : Nat), shp (l.getD 0 0).toNat = (n, C, m) → l ≠ [] → n ≠ 0 → n ≤ l.length → (∀ b ∈ (l.drop 1).take (n - 1), contB b) → cpt C ((l.drop 1).take (n - 1)) = c → m ≤ c → nextB l = some (c, n) := fun l n C m h1 h2 h3 h4 h5 h6 h7 => by
    have e1 : (shp (l.getD 0 0).toNat).1 = n := by rw [h1]
    have e2 : (shp (l.getD 0 0).toNat).2.1 = C := by rw [h1]
    have e3 : (shp (l.getD 0 0).toNat).2.2 = m := by rw [h1]
    have e4 : tailB l = (l.drop 1).take (n - 1) := by unfold tailB; rw [e1]
    have e5 : cpB l = c := by unfold cpB; rw [e2, e4]; exact h6
    unfold nextB
    rw [e1, e3, e4, e5, if_pos ⟨h2, h3, h4, h5, h7, ⟨by omega, p2, p3⟩⟩]
  have hc : ∀ x : Nat, x < 64 → contB (UInt8.ofNat (128 + x)) := fun x hx => by unfold contB; rw [u8_of]; omega
  have hm : ∀ x : Nat, x < 64 → (UInt8.ofNat (128 + x)).toNat % 64 = x := fun x hx => by rw [u8_of]; omega
  have q1 : c % 64 < 64 := Nat.mod_lt _ (by decide)
  have q2 : c / 64 % 64 < 64 := Nat.mod_lt _ (by decide)
  have q3 : c / 4096 % 64 < 64 := Nat.mod_lt _ (by decide)
  by_cases h1 : c < 128
  · have he : encB c = [UInt8.ofNat c] := by unfold encB; rw [if_pos h1]
    rw [he]
    refine key _ 1 c 0 ?_ (by simp) (by decide) (by simp) (by intro b hb; simp at hb) rfl (Nat.zero_le _)
    show shp (UInt8.ofNat c).toNat = _
    rw [u8_of, Nat.mod_eq_of_lt (by omega)]
    unfold shp
    rw [if_pos h1]
  by_cases h2 : c < 2048
  · have he : encB c = [UInt8.ofNat (192 + c / 64), UInt8.ofNat (128 + c % 64)] := by unfold encB; rw [if_neg h1, if_pos h2]
    rw [he]
    refine key _ 2 (c / 64) 128 ?_ (by simp) (by decide) (by simp) ?_ ?_ (by omega)
    · show shp (UInt8.ofNat (192 + c / 64)).toNat = _
      rw [u8_of, Nat.mod_eq_of_lt (by omega)]
      unfold shp
      rw [if_neg (by omega), if_neg (by omega), if_pos (by omega), show (192 + c / 64) % 32 = c / 64 by omega]
    · intro b hb
      have hb' : b ∈ [UInt8.ofNat (128 + c % 64)] := hb
      rw [List.mem_singleton.1 hb']; exact hc _ q1
    · show c / 64 * 64 + (UInt8.ofNat (128 + c % 64)).toNat % 64 = c
      rw [hm _ q1]; omega
  by_cases h3 : c < 65536
  · have he : encB c = [UInt8.ofNat (224 + c / 4096), UInt8.ofNat (128 + c / 64 % 64), UInt8.ofNat (128 + c % 64)] := by unfold encB; rw [if_neg h1, if_neg h2, if_pos h3]
    rw [he]
    refine key _ 3 (c / 4096) 2048 ?_ (by simp) (by decide) (by simp) ?_ ?_ (by omega)
    · show shp (UInt8.ofNat (224 + c / 4096)).toNat = _
      rw [u8_of, Nat.mod_eq_of_lt (by omega)]
      unfold shp
      rw [if_neg (by omega), if_neg (by omega), if_neg (by omega), if_pos (by omega), show (224 + c / 4096) % 16 = c / 4096 by omega]
    · intro b hb
      have hb' : b ∈ [UInt8.ofNat (128 + c / 64 % 64), UInt8.ofNat (128 + c % 64)] := hb
      simp only [List.mem_cons, List.not_mem_nil, or_false] at hb'
      rcases hb' with rfl | rfl
      · exact hc _ q2
      · exact hc _ q1
    · show (c / 4096 * 64 + (UInt8.ofNat (128 + c / 64 % 64)).toNat % 64) * 64 + (UInt8.ofNat (128 + c % 64)).toNat % 64 = c
      rw [hm _ q1, hm _ q2]; omega
  · have he : encB c = [UInt8.ofNat (240 + c / 262144), UInt8.ofNat (128 + c / 4096 % 64), UInt8.ofNat (128 + c / 64 % 64), UInt8.ofNat (128 + c % 64)] := by unfold encB; rw [if_neg h1, if_neg h2, if_neg h3]
    rw [he]
    refine key _ 4 (c / 262144) 65536 ?_ (by simp) (by decide) (by simp) ?_ ?_ (by omega)
    · show shp (UInt8.ofNat (240 + c / 262144)).toNat = _
      rw [u8_of, Nat.mod_eq_of_lt (by omega)]
      unfold shp
      rw [if_neg (by omega), if_neg (by omega), if_neg (by omega), if_neg (by omega), if_pos (by omega), show (240 + c / 262144) % 8 = c / 262144 by omega]
    · intro b hb
      have hb' : b ∈ [UInt8.ofNat (128 + c / 4096 % 64), UInt8.ofNat (128 + c / 64 % 64), UInt8.ofNat (128 + c % 64)] := hb
      simp only [List.mem_cons, List.not_mem_nil, or_false] at hb'
      rcases hb' with rfl | rfl | rfl
      · exact hc _ q3
      · exact hc _ q2
      · exact hc _ q1
    · show ((c / 262144 * 64 + (UInt8.ofNat (128 + c / 4096 % 64)).toNat % 64) * 64 + (UInt8.ofNat (128 + c / 64 % 64)).toNat % 64) * 64 + (UInt8.ofNat (128 + c % 64)).toNat % 64 = c
      rw [hm _ q1, hm _ q2, hm _ q3]; omega
theorem runes_enc {c : Nat} (hp : pointI (c : Int)) (r : List UInt8) : runesB (encB c ++ r) = (runesB r).map (c :: ·) := by
  have hne : encB c ++ r ≠ [] := fun h => by
    have h2 := congrArg List.length h
    have := (encB_len c).1
    rw [List.length_append] at h2
    simp at h2
    rw [h2.1] at this
    simp at this
  rw [runesB_step hne, next_enc hp]
  simp only [List.drop_left]
end Go.Proofs.YtahpiaaffeiadaaGreat
