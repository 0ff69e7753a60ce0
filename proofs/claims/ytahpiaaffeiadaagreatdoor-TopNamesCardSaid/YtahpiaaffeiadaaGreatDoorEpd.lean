/- Letters, digits and hyphens read back as points: figures, numbers, basic points. -/
import Derived.Test.YtahpiaaffeiadaaGreatDoorEpv
import Derived.Test.YtahpiaaffeiadaaGreatDoorEsh
import Derived.Laws.CopyRow
import Derived.Laws.IdiomCopy
namespace Go.Proofs.YtahpiaaffeiadaaGreatDoor
open Go Go.RowKit
def figN (c : Nat) : Nat := if 97 ≤ c ∧ c ≤ 122 then c - 97 else if 65 ≤ c ∧ c ≤ 90 then c - 65 else if 48 ≤ c ∧ c ≤ 57 then c - 22 else 0
def figK (c : Nat) : Bool := decide (97 ≤ c ∧ c ≤ 122) || decide (65 ≤ c ∧ c ≤ 90) || decide (48 ≤ c ∧ c ≤ 57)
theorem fig_lt (c : Nat) : figN c < 36 := by unfold figN; (repeat' split) <;> omega
theorem pfigure_any (c : UInt8) (w : World) : Ret Tryz.prog 118 #[.int .u8 (c.toNat : Int)] w fun v w' => v = .tuple #[.int .i64 (figN c.toNat : Nat), .bool (figK c.toNat)] ∧ Ext w w' := by
  have hE0 := Ext.refl w
  refine Ret.body Tryz.func118 rfl Tryz.ntmps118 rfl ?_
  have hc := c.toNat_lt
  generalize c.toNat = n at hc ⊢
  by_cases h1 : 97 ≤ n ∧ n ≤ 122
  · have e1 : figN n = n - 97 := if_pos h1
    have e2 : figK n = true := by simp [figK, h1]
    have e3 : IntKind.u8.wrap ((n : Int) - 97) = ((n - 97 : Nat) : Int) := by rw [show (n : Int) - 97 = ((n - 97 : Nat) : Int) by omega]; exact u8_id (by omega) (by omega)
    have e4 : IntKind.i64.wrap ((n - 97 : Nat) : Int) = ((n - 97 : Nat) : Int) := IntWalk.i64_in _ ⟨by omega, by omega⟩
    rw [e1, e2]
    refine Cd.seq ?_
    refine Cd.region ?_
    refine Seg.step rfl rfl (Yd.assign rfl) ?_
    refine Seg.step rfl rfl (Yd.assign rfl) ?_
    refine Seg.nil ?_
    refine At.then_ ?_
    refine Cd.seq ?_
    refine Cd.block ?_
    refine Cd.seq ?_
    refine Cd.region ?_
    refine Seg.step rfl rfl (Yd.move rfl) ?_
    refine Seg.step rfl rfl (Yd.leq rfl rfl) ?_
    refine Seg.step rfl rfl (Yd.move rfl) ?_
    refine Seg.gsplitp rfl rfl (fun h15 => ?_) (fun h15 => ?_)
    · refine Seg.step rfl rfl (Yd.move rfl) ?_
      refine Seg.step rfl rfl (Yd.leq rfl rfl) ?_
      refine Seg.step rfl rfl (Yd.pickT rfl rfl) ?_
      refine Seg.step rfl rfl (Yd.assign rfl) ?_
      refine Seg.nil ?_
      refine At.then_ ?_
      refine Cd.condk rfl (fun h23 => ?_) (fun h23 => ?_)
      · refine Cd.seq ?_
        refine Cd.region ?_
        refine Seg.step rfl rfl (Yd.move rfl) ?_
        (refine Seg.step rfl rfl (Yd.sub rfl rfl) ?_; rw [e3])
        (refine Seg.step rfl rfl (Yd.convN rfl rfl rfl e4) ?_)
        refine Seg.step rfl rfl (Yd.assign rfl) ?_
        refine Seg.step rfl rfl (Yd.assign rfl) ?_
        refine Seg.nil ?_
        refine At.then_ ?_
        refine Cd.ret ?_
        refine At.blk_ret ?_
        refine At.then_ret ?_
        exact At.ret Tryz.results118 (.tmp rfl (.tmp rfl .nil)) ⟨rfl, hE0⟩
      · exfalso; omega
    · exfalso; omega
  by_cases h2 : 65 ≤ n ∧ n ≤ 90
  · have e1 : figN n = n - 65 := (if_neg h1).trans (if_pos h2)
    have e2 : figK n = true := by simp [figK, h2]
    have e3 : IntKind.u8.wrap ((n : Int) - 65) = ((n - 65 : Nat) : Int) := by rw [show (n : Int) - 65 = ((n - 65 : Nat) : Int) by omega]; exact u8_id (by omega) (by omega)
    have e4 : IntKind.i64.wrap ((n - 65 : Nat) : Int) = ((n - 65 : Nat) : Int) := IntWalk.i64_in _ ⟨by omega, by omega⟩
    rw [e1, e2]
    refine Cd.seq ?_
    refine Cd.region ?_
    refine Seg.step rfl rfl (Yd.assign rfl) ?_
    refine Seg.step rfl rfl (Yd.assign rfl) ?_
    refine Seg.nil ?_
    refine At.then_ ?_
    refine Cd.seq ?_
    refine Cd.block ?_
    refine Cd.seq ?_
    refine Cd.region ?_
    refine Seg.step rfl rfl (Yd.move rfl) ?_
    refine Seg.step rfl rfl (Yd.leq rfl rfl) ?_
    refine Seg.step rfl rfl (Yd.move rfl) ?_
    refine Seg.gsplitp rfl rfl (fun h16 => ?_) (fun h16 => ?_)
    · exfalso; omega
    · refine Seg.skip rfl rfl ?_
      refine Seg.skip rfl rfl ?_
      refine Seg.step rfl rfl (Yd.pickF rfl rfl) ?_
      refine Seg.step rfl rfl (Yd.assign rfl) ?_
      refine Seg.nil ?_
      refine At.then_ ?_
      refine Cd.condF rfl ?_
      refine Cd.seq ?_
      refine Cd.region ?_
      refine Seg.step rfl rfl (Yd.move rfl) ?_
      refine Seg.step rfl rfl (Yd.leq rfl rfl) ?_
      refine Seg.step rfl rfl (Yd.move rfl) ?_
      refine Seg.gsplitp rfl rfl (fun h30 => ?_) (fun h30 => ?_)
      · refine Seg.step rfl rfl (Yd.move rfl) ?_
        refine Seg.step rfl rfl (Yd.leq rfl rfl) ?_
        refine Seg.step rfl rfl (Yd.pickT rfl rfl) ?_
        refine Seg.step rfl rfl (Yd.assign rfl) ?_
        refine Seg.nil ?_
        refine At.then_ ?_
        refine Cd.condk rfl (fun h38 => ?_) (fun h38 => ?_)
        · refine Cd.seq ?_
          refine Cd.region ?_
          refine Seg.step rfl rfl (Yd.move rfl) ?_
          (refine Seg.step rfl rfl (Yd.sub rfl rfl) ?_; rw [e3])
          (refine Seg.step rfl rfl (Yd.convN rfl rfl rfl e4) ?_)
          refine Seg.step rfl rfl (Yd.assign rfl) ?_
          refine Seg.step rfl rfl (Yd.assign rfl) ?_
          refine Seg.nil ?_
          refine At.then_ ?_
          refine Cd.ret ?_
          refine At.blk_ret ?_
          refine At.then_ret ?_
          exact At.ret Tryz.results118 (.tmp rfl (.tmp rfl .nil)) ⟨rfl, hE0⟩
        · exfalso; omega
      · exfalso; omega
  by_cases h3 : 48 ≤ n ∧ n ≤ 57
  · have e1 : figN n = n - 22 := (if_neg h1).trans ((if_neg h2).trans (if_pos h3))
    have e2 : figK n = true := by simp [figK, h3]
    have e3 : IntKind.u8.wrap ((n : Int) - 48) = ((n - 48 : Nat) : Int) := by rw [show (n : Int) - 48 = ((n - 48 : Nat) : Int) by omega]; exact u8_id (by omega) (by omega)
    have e4 : IntKind.i64.wrap ((n - 48 : Nat) : Int) = ((n - 48 : Nat) : Int) := IntWalk.i64_in _ ⟨by omega, by omega⟩
    have e5 : ((n - 48 : Nat) : Int) + 26 = ((n - 22 : Nat) : Int) := by omega
    rw [e1, e2]
    refine Cd.seq ?_
    refine Cd.region ?_
    refine Seg.step rfl rfl (Yd.assign rfl) ?_
    refine Seg.step rfl rfl (Yd.assign rfl) ?_
    refine Seg.nil ?_
    refine At.then_ ?_
    refine Cd.seq ?_
    refine Cd.block ?_
    refine Cd.seq ?_
    refine Cd.region ?_
    refine Seg.step rfl rfl (Yd.move rfl) ?_
    refine Seg.step rfl rfl (Yd.leq rfl rfl) ?_
    refine Seg.step rfl rfl (Yd.move rfl) ?_
    refine Seg.gsplitp rfl rfl (fun h17 => ?_) (fun h17 => ?_)
    · exfalso; omega
    · refine Seg.skip rfl rfl ?_
      refine Seg.skip rfl rfl ?_
      refine Seg.step rfl rfl (Yd.pickF rfl rfl) ?_
      refine Seg.step rfl rfl (Yd.assign rfl) ?_
      refine Seg.nil ?_
      refine At.then_ ?_
      refine Cd.condF rfl ?_
      refine Cd.seq ?_
      refine Cd.region ?_
      refine Seg.step rfl rfl (Yd.move rfl) ?_
      refine Seg.step rfl rfl (Yd.leq rfl rfl) ?_
      refine Seg.step rfl rfl (Yd.move rfl) ?_
      refine Seg.gsplitp rfl rfl (fun h31 => ?_) (fun h31 => ?_)
      · exfalso; omega
      · refine Seg.skip rfl rfl ?_
        refine Seg.skip rfl rfl ?_
        refine Seg.step rfl rfl (Yd.pickF rfl rfl) ?_
        refine Seg.step rfl rfl (Yd.assign rfl) ?_
        refine Seg.nil ?_
        refine At.then_ ?_
        refine Cd.condF rfl ?_
        refine Cd.seq ?_
        refine Cd.region ?_
        refine Seg.step rfl rfl (Yd.move rfl) ?_
        refine Seg.step rfl rfl (Yd.leq rfl rfl) ?_
        refine Seg.step rfl rfl (Yd.move rfl) ?_
        refine Seg.gsplitp rfl rfl (fun h45 => ?_) (fun h45 => ?_)
        · refine Seg.step rfl rfl (Yd.move rfl) ?_
          refine Seg.step rfl rfl (Yd.leq rfl rfl) ?_
          refine Seg.step rfl rfl (Yd.pickT rfl rfl) ?_
          refine Seg.step rfl rfl (Yd.assign rfl) ?_
          refine Seg.nil ?_
          refine At.then_ ?_
          refine Cd.condk rfl (fun h53 => ?_) (fun h53 => ?_)
          · refine Cd.seq ?_
            refine Cd.region ?_
            refine Seg.step rfl rfl (Yd.move rfl) ?_
            first | (refine Seg.step rfl rfl (Yd.sub rfl rfl) ?_; rw [e3]) | (refine Seg.step rfl rfl (Yd.addI rfl rfl (by omega)) ?_; rw [e5])
            (refine Seg.step rfl rfl (Yd.convN rfl rfl rfl e4) ?_)
            first | (refine Seg.step rfl rfl (Yd.sub rfl rfl) ?_; rw [e3]) | (refine Seg.step rfl rfl (Yd.addI rfl rfl (by omega)) ?_; rw [e5])
            refine Seg.step rfl rfl (Yd.assign rfl) ?_
            refine Seg.step rfl rfl (Yd.assign rfl) ?_
            refine Seg.nil ?_
            refine At.then_ ?_
            refine Cd.ret ?_
            refine At.blk_ret ?_
            refine At.then_ret ?_
            exact At.ret Tryz.results118 (.tmp rfl (.tmp rfl .nil)) ⟨rfl, hE0⟩
          · exfalso; omega
        · exfalso; omega
  · have e1 : figN n = 0 := (if_neg h1).trans ((if_neg h2).trans (if_neg h3))
    have e2 : figK n = false := by simp [figK, h1, h2, h3]
    rw [e1, e2]
    refine Cd.seq ?_
    refine Cd.region ?_
    refine Seg.step rfl rfl (Yd.assign rfl) ?_
    refine Seg.step rfl rfl (Yd.assign rfl) ?_
    refine Seg.nil ?_
    refine At.then_ ?_
    refine Cd.seq ?_
    refine Cd.block ?_
    refine Cd.seq ?_
    refine Cd.region ?_
    refine Seg.step rfl rfl (Yd.move rfl) ?_
    refine Seg.step rfl rfl (Yd.leq rfl rfl) ?_
    refine Seg.step rfl rfl (Yd.move rfl) ?_
    refine Seg.gsplitp rfl rfl (fun h17 => ?_) (fun h17 => ?_)
    · refine Seg.step rfl rfl (Yd.move rfl) ?_
      refine Seg.step rfl rfl (Yd.leq rfl rfl) ?_
      refine Seg.step rfl rfl (Yd.pickT rfl rfl) ?_
      refine Seg.step rfl rfl (Yd.assign rfl) ?_
      refine Seg.nil ?_
      refine At.then_ ?_
      refine Cd.condk rfl (fun h25 => ?_) (fun h25 => ?_)
      · exfalso; omega
      · refine Cd.seq ?_
        refine Cd.region ?_
        refine Seg.step rfl rfl (Yd.move rfl) ?_
        refine Seg.step rfl rfl (Yd.leq rfl rfl) ?_
        refine Seg.step rfl rfl (Yd.move rfl) ?_
        refine Seg.gsplitp rfl rfl (fun h32 => ?_) (fun h32 => ?_)
        · refine Seg.step rfl rfl (Yd.move rfl) ?_
          refine Seg.step rfl rfl (Yd.leq rfl rfl) ?_
          refine Seg.step rfl rfl (Yd.pickT rfl rfl) ?_
          refine Seg.step rfl rfl (Yd.assign rfl) ?_
          refine Seg.nil ?_
          refine At.then_ ?_
          refine Cd.condk rfl (fun h40 => ?_) (fun h40 => ?_)
          · exfalso; omega
          · refine Cd.seq ?_
            refine Cd.region ?_
            refine Seg.step rfl rfl (Yd.move rfl) ?_
            refine Seg.step rfl rfl (Yd.leq rfl rfl) ?_
            refine Seg.step rfl rfl (Yd.move rfl) ?_
            refine Seg.gsplitp rfl rfl (fun h47 => ?_) (fun h47 => ?_)
            · refine Seg.step rfl rfl (Yd.move rfl) ?_
              refine Seg.step rfl rfl (Yd.leq rfl rfl) ?_
              refine Seg.step rfl rfl (Yd.pickT rfl rfl) ?_
              refine Seg.step rfl rfl (Yd.assign rfl) ?_
              refine Seg.nil ?_
              refine At.then_ ?_
              refine Cd.condk rfl (fun h55 => ?_) (fun h55 => ?_)
              · exfalso; omega
              · refine Cd.skip ?_
                refine At.blk ?_
                refine At.then_ ?_
                refine Cd.seq ?_
                refine Cd.region ?_
                refine Seg.step rfl rfl (Yd.assign rfl) ?_
                refine Seg.step rfl rfl (Yd.assign rfl) ?_
                refine Seg.nil ?_
                refine At.then_ ?_
                refine Cd.ret ?_
                exact At.ret Tryz.results118 (.tmp rfl (.tmp rfl .nil)) ⟨rfl, hE0⟩
            · exfalso; omega
        · exfalso; omega
    · refine Seg.skip rfl rfl ?_
      refine Seg.skip rfl rfl ?_
      refine Seg.step rfl rfl (Yd.pickF rfl rfl) ?_
      refine Seg.step rfl rfl (Yd.assign rfl) ?_
      refine Seg.nil ?_
      refine At.then_ ?_
      refine Cd.condF rfl ?_
      refine Cd.seq ?_
      refine Cd.region ?_
      refine Seg.step rfl rfl (Yd.move rfl) ?_
      refine Seg.step rfl rfl (Yd.leq rfl rfl) ?_
      refine Seg.step rfl rfl (Yd.move rfl) ?_
      refine Seg.gsplitp rfl rfl (fun h81 => ?_) (fun h81 => ?_)
      · refine Seg.step rfl rfl (Yd.move rfl) ?_
        refine Seg.step rfl rfl (Yd.leq rfl rfl) ?_
        refine Seg.step rfl rfl (Yd.pickT rfl rfl) ?_
        refine Seg.step rfl rfl (Yd.assign rfl) ?_
        refine Seg.nil ?_
        refine At.then_ ?_
        refine Cd.condk rfl (fun h89 => ?_) (fun h89 => ?_)
        · exfalso; omega
        · refine Cd.seq ?_
          refine Cd.region ?_
          refine Seg.step rfl rfl (Yd.move rfl) ?_
          refine Seg.step rfl rfl (Yd.leq rfl rfl) ?_
          refine Seg.step rfl rfl (Yd.move rfl) ?_
          refine Seg.gsplitp rfl rfl (fun h96 => ?_) (fun h96 => ?_)
          · refine Seg.step rfl rfl (Yd.move rfl) ?_
            refine Seg.step rfl rfl (Yd.leq rfl rfl) ?_
            refine Seg.step rfl rfl (Yd.pickT rfl rfl) ?_
            refine Seg.step rfl rfl (Yd.assign rfl) ?_
            refine Seg.nil ?_
            refine At.then_ ?_
            refine Cd.condk rfl (fun h104 => ?_) (fun h104 => ?_)
            · exfalso; omega
            · refine Cd.skip ?_
              refine At.blk ?_
              refine At.then_ ?_
              refine Cd.seq ?_
              refine Cd.region ?_
              refine Seg.step rfl rfl (Yd.assign rfl) ?_
              refine Seg.step rfl rfl (Yd.assign rfl) ?_
              refine Seg.nil ?_
              refine At.then_ ?_
              refine Cd.ret ?_
              exact At.ret Tryz.results118 (.tmp rfl (.tmp rfl .nil)) ⟨rfl, hE0⟩
          · exfalso; omega
      · refine Seg.skip rfl rfl ?_
        refine Seg.skip rfl rfl ?_
        refine Seg.step rfl rfl (Yd.pickF rfl rfl) ?_
        refine Seg.step rfl rfl (Yd.assign rfl) ?_
        refine Seg.nil ?_
        refine At.then_ ?_
        refine Cd.condF rfl ?_
        refine Cd.seq ?_
        refine Cd.region ?_
        refine Seg.step rfl rfl (Yd.move rfl) ?_
        refine Seg.step rfl rfl (Yd.leq rfl rfl) ?_
        refine Seg.step rfl rfl (Yd.move rfl) ?_
        refine Seg.gsplitp rfl rfl (fun h130 => ?_) (fun h130 => ?_)
        · refine Seg.step rfl rfl (Yd.move rfl) ?_
          refine Seg.step rfl rfl (Yd.leq rfl rfl) ?_
          refine Seg.step rfl rfl (Yd.pickT rfl rfl) ?_
          refine Seg.step rfl rfl (Yd.assign rfl) ?_
          refine Seg.nil ?_
          refine At.then_ ?_
          refine Cd.condk rfl (fun h138 => ?_) (fun h138 => ?_)
          · exfalso; omega
          · refine Cd.skip ?_
            refine At.blk ?_
            refine At.then_ ?_
            refine Cd.seq ?_
            refine Cd.region ?_
            refine Seg.step rfl rfl (Yd.assign rfl) ?_
            refine Seg.step rfl rfl (Yd.assign rfl) ?_
            refine Seg.nil ?_
            refine At.then_ ?_
            refine Cd.ret ?_
            exact At.ret Tryz.results118 (.tmp rfl (.tmp rfl .nil)) ⟨rfl, hE0⟩
        · refine Seg.skip rfl rfl ?_
          refine Seg.skip rfl rfl ?_
          refine Seg.step rfl rfl (Yd.pickF rfl rfl) ?_
          refine Seg.step rfl rfl (Yd.assign rfl) ?_
          refine Seg.nil ?_
          refine At.then_ ?_
          refine Cd.condF rfl ?_
          refine Cd.skip ?_
          refine At.blk ?_
          refine At.then_ ?_
          refine Cd.seq ?_
          refine Cd.region ?_
          refine Seg.step rfl rfl (Yd.assign rfl) ?_
          refine Seg.step rfl rfl (Yd.assign rfl) ?_
          refine Seg.nil ?_
          refine At.then_ ?_
          refine Cd.ret ?_
          exact At.ret Tryz.results118 (.tmp rfl (.tmp rfl .nil)) ⟨rfl, hE0⟩
theorem lastidx_any (s : List UInt8) (c : Int) (w : World) (hs : s.length ≤ 1000000) : Ret Tryz.prog 117 #[.string ⟨s.toArray⟩, .int .u8 c] w fun v w' => v = .int .i64 (Lib.lastIndexByte ⟨s.toArray⟩ c) ∧ Ext w w' :=
  (Sh.strings_LastIndexByte ⟨s.toArray⟩ c (by show s.toArray.size < _; rw [List.size_toArray]; omega) w).mono fun e w' ⟨he, hw⟩ => ⟨_, he, rfl, by rw [hw]; exact Ext.refl w⟩
structure NuS where
  s : List UInt8
  sum : Nat
  wt : Nat
  k : Nat
theorem pnumber_any (s : List UInt8) (bias : Int) (w : World) (hb : 0 ≤ bias ∧ bias ≤ 100000) (hl : s.length ≤ 10000) : Ret Tryz.prog 98 #[.string ⟨s.toArray⟩, .int .i64 bias] w fun v w' => (∃ (d e : Nat) (r : List UInt8), v = .tuple #[.int .i64 (d : Int), .string ⟨r.toArray⟩, .int .i64 (e : Int)] ∧ (e = 0 → d ≤ 4294967295 ∧ r.length < s.length)) ∧ Ext w w' := by
  have hE0 := Ext.refl w
  refine Ret.body Tryz.func98 rfl Tryz.ntmps98 rfl ?_
  refine Cd.seq ?_
  refine Cd.region ?_
  refine Seg.step rfl rfl (Yd.assign rfl) ?_
  refine Seg.step rfl rfl (Yd.assign rfl) ?_
  refine Seg.step rfl rfl (Yd.assign rfl) ?_
  refine Seg.nil ?_
  refine At.then_ ?_
  refine Cd.seq ?_
  refine Cd.region ?_
  refine Seg.step rfl rfl (Yd.assign rfl) ?_
  refine Seg.step rfl rfl (Yd.assign rfl) ?_
  refine Seg.nil ?_
  refine At.then_ ?_
  refine Cd.seq ?_
  refine Cd.region ?_
  refine Seg.step rfl rfl (Yd.assign rfl) ?_
  refine Seg.nil ?_
  refine At.then_ ?_
  refine Cd.block ?_
  refine Cd.loop (σ := NuS) (fun t => [(0, .string ⟨t.s.toArray⟩), (1, .int .i64 bias), (7, .int .i64 (t.sum : Int)), (8, .int .i64 (t.wt : Int)), (9, .int .i64 (t.k : Int))])
    (fun t w' => (t.sum ≤ 4294967295 ∧ t.wt ≤ 4294967295 ∧ t.k + t.s.length = 1 + s.length ∧ 1 ≤ t.k) ∧ Ext w w') (fun t => t.s.length) ⟨s, 0, 1, 1⟩ (.cons rfl (.cons rfl (.cons rfl (.cons rfl (.cons rfl (.nil _)))))) ⟨⟨Nat.zero_le _, by show 1 ≤ _; omega, rfl, Nat.le_refl _⟩, hE0⟩ ?_
  clear hE0
  rintro ⟨q, sum, wt, k⟩ w1 ⟨⟨h1, h2, h3, h4⟩, hE0⟩
  simp only at h1 h2 h3 h4 ⊢
  by_cases hqn : q = []
  · subst hqn
    refine Cd.seq ?_
    refine Cd.block ?_
    refine Cd.seq ?_
    refine Cd.seq ?_
    refine Cd.region ?_
    refine Seg.step rfl rfl (Yd.move rfl) ?_
    refine Seg.step rfl rfl (Yd.eqlS rfl rfl) ?_
    refine Seg.nil ?_
    refine At.then_ ?_
    refine Cd.condT rfl ?_
    refine Cd.seq ?_
    refine Cd.region ?_
    refine Seg.step rfl rfl (Yd.assign rfl) ?_
    refine Seg.step rfl rfl (Yd.assign rfl) ?_
    refine Seg.step rfl rfl (Yd.assign rfl) ?_
    refine Seg.nil ?_
    refine At.then_ ?_
    refine Cd.ret ?_
    refine At.then_ret ?_
    refine At.blk_ret ?_
    refine At.then_ret ?_
    refine At.then_ret ?_
    refine At.blk_ret ?_
    exact At.ret Tryz.results98 (.tmp rfl (.tmp rfl (.tmp rfl .nil))) ⟨⟨0, 5, [], rfl, fun h => by cases h⟩, hE0⟩
  · have hq1 : 1 ≤ q.length := List.length_pos_iff.2 hqn
    obtain ⟨c, hc⟩ : ∃ c, c = q.getD 0 0 := ⟨_, rfl⟩
    have hdl : (q.drop 1).length = q.length - 1 := List.length_drop
    have hpr : figN c.toNat * wt ≤ 36 * 4294967295 := Nat.mul_le_mul (Nat.le_of_lt (fig_lt _)) h2
    have hf := fig_lt c.toNat
    obtain ⟨t1, t2⟩ := bnd_in k bias
    obtain ⟨t, ht⟩ := Int.eq_ofNat_of_zero_le (show 0 ≤ bndI k bias by omega)
    rw [ht] at t1 t2
    have hwt : wt * (36 - t) ≤ 4294967295 * 36 := Nat.mul_le_mul h2 (by omega)
    generalize hfn : figN c.toNat = f at hpr hf
    generalize hp : f * wt = p at hpr
    generalize hu0 : wt * (36 - t) = u at hwt
    have v1 : (f : Int) * (wt : Int) = (p : Int) := by rw [← hp]; exact (Int.natCast_mul _ _).symm
    have v2 : (36 : Int) - (t : Int) = ((36 - t : Nat) : Int) := by omega
    have v3 : (wt : Int) * ((36 - t : Nat) : Int) = (u : Int) := by rw [← hu0]; exact (Int.natCast_mul _ _).symm
    have v4 : (sum : Int) + (p : Int) = ((sum + p : Nat) : Int) := rfl
    cases hk : figK c.toNat with
    | false =>
      refine Cd.seq ?_
      refine Cd.block ?_
      refine Cd.seq ?_
      refine Cd.seq ?_
      refine Cd.region ?_
      refine Seg.step rfl rfl (Yd.move rfl) ?_
      refine Seg.step rfl rfl (Yd.eqlS rfl rfl) ?_
      refine Seg.nil ?_
      refine At.then_ ?_
      refine Cd.condk rfl (fun h14 => ?_) (fun h14 => ?_)
      · contradiction
      · refine Cd.skip ?_
        refine At.then_ ?_
        refine Cd.seq ?_
        refine Cd.region ?_
        refine Seg.step rfl rfl (Yd.move rfl) ?_
        refine Seg.step rfl rfl (Yd.indexStr rfl rfl rfl (NatOf.cast 0) (by omega)) ?_
        (refine Seg.call rfl rfl (own_of rfl) rfl (pfigure_any _ _) ?_; rw [← hc, hk]; rintro _ w22 ⟨rfl, hE22⟩)
        replace hE0 := Ext.trans hE0 hE22
        refine Seg.step rfl rfl (Yd.move rfl) ?_
        refine Seg.step rfl rfl (Yd.extract rfl rfl) ?_
        refine Seg.step rfl rfl (Yd.extract rfl rfl) ?_
        refine Seg.step rfl rfl (Yd.assign rfl) ?_
        refine Seg.step rfl rfl (Yd.assign rfl) ?_
        refine Seg.nil ?_
        refine At.then_ ?_
        refine Cd.seq ?_
        refine Cd.seq ?_
        refine Cd.region ?_
        refine Seg.step rfl rfl (Yd.move rfl) ?_
        refine Seg.step rfl rfl (Yd.not rfl) ?_
        refine Seg.nil ?_
        refine At.then_ ?_
        refine Cd.condT rfl ?_
        refine Cd.seq ?_
        refine Cd.region ?_
        refine Seg.step rfl rfl (Yd.assign rfl) ?_
        refine Seg.step rfl rfl (Yd.assign rfl) ?_
        refine Seg.step rfl rfl (Yd.assign rfl) ?_
        refine Seg.nil ?_
        refine At.then_ ?_
        refine Cd.ret ?_
        refine At.then_ret ?_
        refine At.blk_ret ?_
        refine At.then_ret ?_
        refine At.then_ret ?_
        refine At.blk_ret ?_
        exact At.ret Tryz.results98 (.tmp rfl (.tmp rfl (.tmp rfl .nil))) ⟨⟨0, 5, [], rfl, fun h => by cases h⟩, hE0⟩
    | true =>
      by_cases hs : sum + p ≤ 4294967295
      · by_cases hft : f < t
        · refine Cd.seq ?_
          refine Cd.block ?_
          refine Cd.seq ?_
          refine Cd.seq ?_
          refine Cd.region ?_
          refine Seg.step rfl rfl (Yd.move rfl) ?_
          refine Seg.step rfl rfl (Yd.eqlS rfl rfl) ?_
          refine Seg.nil ?_
          refine At.then_ ?_
          refine Cd.condk rfl (fun h14 => ?_) (fun h14 => ?_)
          · contradiction
          · refine Cd.skip ?_
            refine At.then_ ?_
            refine Cd.seq ?_
            refine Cd.region ?_
            refine Seg.step rfl rfl (Yd.move rfl) ?_
            refine Seg.step rfl rfl (Yd.indexStr rfl rfl rfl (NatOf.cast 0) (by omega)) ?_
            (refine Seg.call rfl rfl (own_of rfl) rfl (pfigure_any _ _) ?_; rw [← hc, hk, hfn]; rintro _ w22 ⟨rfl, hE22⟩)
            replace hE0 := Ext.trans hE0 hE22
            refine Seg.step rfl rfl (Yd.move rfl) ?_
            refine Seg.step rfl rfl (Yd.extract rfl rfl) ?_
            refine Seg.step rfl rfl (Yd.extract rfl rfl) ?_
            refine Seg.step rfl rfl (Yd.assign rfl) ?_
            refine Seg.step rfl rfl (Yd.assign rfl) ?_
            refine Seg.nil ?_
            refine At.then_ ?_
            refine Cd.seq ?_
            refine Cd.seq ?_
            refine Cd.region ?_
            refine Seg.step rfl rfl (Yd.move rfl) ?_
            refine Seg.step rfl rfl (Yd.not rfl) ?_
            refine Seg.nil ?_
            refine At.then_ ?_
            refine Cd.condF rfl ?_
            refine Cd.skip ?_
            refine At.then_ ?_
            refine Cd.seq ?_
            refine Cd.region ?_
            refine Seg.step rfl rfl (Yd.move rfl) ?_
            refine Seg.step rfl rfl (Yd.slStrL rfl rfl rfl (NatOf.cast 1) (by omega)) ?_
            refine Seg.step rfl rfl (Yd.assign rfl) ?_
            refine Seg.nil ?_
            refine At.then_ ?_
            refine Cd.seq ?_
            refine Cd.region ?_
            refine Seg.step rfl rfl (Yd.move rfl) ?_
            refine Seg.step rfl rfl (Yd.move rfl) ?_
            refine Seg.step rfl rfl (Yd.move rfl) ?_
            first | (refine Seg.step rfl rfl (Yd.mulI rfl rfl (by omega)) ?_; rw [v1]) | (refine Seg.step rfl rfl (Yd.addI rfl rfl (by omega)) ?_; rw [v4])
            first | (refine Seg.step rfl rfl (Yd.mulI rfl rfl (by omega)) ?_; rw [v1]) | (refine Seg.step rfl rfl (Yd.addI rfl rfl (by omega)) ?_; rw [v4])
            refine Seg.step rfl rfl (Yd.assign rfl) ?_
            refine Seg.nil ?_
            refine At.then_ ?_
            refine Cd.seq ?_
            refine Cd.seq ?_
            refine Cd.region ?_
            refine Seg.step rfl rfl (Yd.move rfl) ?_
            refine Seg.step rfl rfl (Yd.gtr rfl rfl) ?_
            refine Seg.nil ?_
            refine At.then_ ?_
            refine Cd.condk rfl (fun h64 => ?_) (fun h64 => ?_)
            · exfalso; omega
            · refine Cd.skip ?_
              refine At.then_ ?_
              refine Cd.seq ?_
              refine Cd.region ?_
              refine Seg.step rfl rfl (Yd.move rfl) ?_
              refine Seg.step rfl rfl (Yd.move rfl) ?_
              (refine Seg.call rfl rfl (own_of rfl) rfl (pbound_any _ _ _ ⟨by omega, by omega⟩ ⟨by omega, by omega⟩) ?_; rw [ht]; rintro _ w72 ⟨rfl, hE72⟩)
              replace hE22 := Ext.trans hE22 hE72
              replace hE0 := Ext.trans hE0 hE72
              refine Seg.step rfl rfl (Yd.assign rfl) ?_
              refine Seg.nil ?_
              refine At.then_ ?_
              refine Cd.seq ?_
              refine Cd.seq ?_
              refine Cd.region ?_
              refine Seg.step rfl rfl (Yd.move rfl) ?_
              refine Seg.step rfl rfl (Yd.move rfl) ?_
              refine Seg.step rfl rfl (Yd.lss rfl rfl) ?_
              refine Seg.nil ?_
              refine At.then_ ?_
              refine Cd.condk rfl (fun h84 => ?_) (fun h84 => ?_)
              · refine Cd.seq ?_
                refine Cd.region ?_
                refine Seg.step rfl rfl (Yd.move rfl) ?_
                refine Seg.step rfl rfl (Yd.move rfl) ?_
                refine Seg.step rfl rfl (Yd.assign rfl) ?_
                refine Seg.step rfl rfl (Yd.assign rfl) ?_
                refine Seg.step rfl rfl (Yd.assign rfl) ?_
                refine Seg.nil ?_
                refine At.then_ ?_
                refine Cd.ret ?_
                refine At.then_ret ?_
                refine At.blk_ret ?_
                refine At.then_ret ?_
                refine At.then_ret ?_
                refine At.blk_ret ?_
                exact At.ret Tryz.results98 (.tmp rfl (.tmp rfl (.tmp rfl .nil))) ⟨⟨sum + p, 0, q.drop 1, rfl, fun _ => ⟨hs, by omega⟩⟩, hE0⟩
              · exfalso; omega
        · by_cases hu : u ≤ 4294967295
          · refine Cd.seq ?_
            refine Cd.block ?_
            refine Cd.seq ?_
            refine Cd.seq ?_
            refine Cd.region ?_
            refine Seg.step rfl rfl (Yd.move rfl) ?_
            refine Seg.step rfl rfl (Yd.eqlS rfl rfl) ?_
            refine Seg.nil ?_
            refine At.then_ ?_
            refine Cd.condk rfl (fun h14 => ?_) (fun h14 => ?_)
            · contradiction
            · refine Cd.skip ?_
              refine At.then_ ?_
              refine Cd.seq ?_
              refine Cd.region ?_
              refine Seg.step rfl rfl (Yd.move rfl) ?_
              refine Seg.step rfl rfl (Yd.indexStr rfl rfl rfl (NatOf.cast 0) (by omega)) ?_
              (refine Seg.call rfl rfl (own_of rfl) rfl (pfigure_any _ _) ?_; rw [← hc, hk, hfn]; rintro _ w22 ⟨rfl, hE22⟩)
              replace hE0 := Ext.trans hE0 hE22
              refine Seg.step rfl rfl (Yd.move rfl) ?_
              refine Seg.step rfl rfl (Yd.extract rfl rfl) ?_
              refine Seg.step rfl rfl (Yd.extract rfl rfl) ?_
              refine Seg.step rfl rfl (Yd.assign rfl) ?_
              refine Seg.step rfl rfl (Yd.assign rfl) ?_
              refine Seg.nil ?_
              refine At.then_ ?_
              refine Cd.seq ?_
              refine Cd.seq ?_
              refine Cd.region ?_
              refine Seg.step rfl rfl (Yd.move rfl) ?_
              refine Seg.step rfl rfl (Yd.not rfl) ?_
              refine Seg.nil ?_
              refine At.then_ ?_
              refine Cd.condF rfl ?_
              refine Cd.skip ?_
              refine At.then_ ?_
              refine Cd.seq ?_
              refine Cd.region ?_
              refine Seg.step rfl rfl (Yd.move rfl) ?_
              refine Seg.step rfl rfl (Yd.slStrL rfl rfl rfl (NatOf.cast 1) (by omega)) ?_
              refine Seg.step rfl rfl (Yd.assign rfl) ?_
              refine Seg.nil ?_
              refine At.then_ ?_
              refine Cd.seq ?_
              refine Cd.region ?_
              refine Seg.step rfl rfl (Yd.move rfl) ?_
              refine Seg.step rfl rfl (Yd.move rfl) ?_
              refine Seg.step rfl rfl (Yd.move rfl) ?_
              first | (refine Seg.step rfl rfl (Yd.mulI rfl rfl (by omega)) ?_; first | rw [v1] | rw [v3]) | (refine Seg.step rfl rfl (Yd.addI rfl rfl (by omega)) ?_; rw [v4]) | (refine Seg.step rfl rfl (Yd.subI rfl rfl (by omega)) ?_; rw [v2])
              first | (refine Seg.step rfl rfl (Yd.mulI rfl rfl (by omega)) ?_; first | rw [v1] | rw [v3]) | (refine Seg.step rfl rfl (Yd.addI rfl rfl (by omega)) ?_; rw [v4]) | (refine Seg.step rfl rfl (Yd.subI rfl rfl (by omega)) ?_; rw [v2])
              refine Seg.step rfl rfl (Yd.assign rfl) ?_
              refine Seg.nil ?_
              refine At.then_ ?_
              refine Cd.seq ?_
              refine Cd.seq ?_
              refine Cd.region ?_
              refine Seg.step rfl rfl (Yd.move rfl) ?_
              refine Seg.step rfl rfl (Yd.gtr rfl rfl) ?_
              refine Seg.nil ?_
              refine At.then_ ?_
              refine Cd.condk rfl (fun h64 => ?_) (fun h64 => ?_)
              · exfalso; omega
              · refine Cd.skip ?_
                refine At.then_ ?_
                refine Cd.seq ?_
                refine Cd.region ?_
                refine Seg.step rfl rfl (Yd.move rfl) ?_
                refine Seg.step rfl rfl (Yd.move rfl) ?_
                (refine Seg.call rfl rfl (own_of rfl) rfl (pbound_any _ _ _ ⟨by omega, by omega⟩ ⟨by omega, by omega⟩) ?_; rw [ht]; rintro _ w72 ⟨rfl, hE72⟩)
                replace hE22 := Ext.trans hE22 hE72
                replace hE0 := Ext.trans hE0 hE72
                refine Seg.step rfl rfl (Yd.assign rfl) ?_
                refine Seg.nil ?_
                refine At.then_ ?_
                refine Cd.seq ?_
                refine Cd.seq ?_
                refine Cd.region ?_
                refine Seg.step rfl rfl (Yd.move rfl) ?_
                refine Seg.step rfl rfl (Yd.move rfl) ?_
                refine Seg.step rfl rfl (Yd.lss rfl rfl) ?_
                refine Seg.nil ?_
                refine At.then_ ?_
                refine Cd.condk rfl (fun h84 => ?_) (fun h84 => ?_)
                · exfalso; omega
                · refine Cd.skip ?_
                  refine At.then_ ?_
                  refine Cd.seq ?_
                  refine Cd.region ?_
                  refine Seg.step rfl rfl (Yd.move rfl) ?_
                  refine Seg.step rfl rfl (Yd.move rfl) ?_
                  first | (refine Seg.step rfl rfl (Yd.mulI rfl rfl (by omega)) ?_; first | rw [v1] | rw [v3]) | (refine Seg.step rfl rfl (Yd.addI rfl rfl (by omega)) ?_; rw [v4]) | (refine Seg.step rfl rfl (Yd.subI rfl rfl (by omega)) ?_; rw [v2])
                  first | (refine Seg.step rfl rfl (Yd.mulI rfl rfl (by omega)) ?_; first | rw [v1] | rw [v3]) | (refine Seg.step rfl rfl (Yd.addI rfl rfl (by omega)) ?_; rw [v4]) | (refine Seg.step rfl rfl (Yd.subI rfl rfl (by omega)) ?_; rw [v2])
                  refine Seg.step rfl rfl (Yd.assign rfl) ?_
                  refine Seg.nil ?_
                  refine At.then_ ?_
                  refine Cd.seq ?_
                  refine Cd.region ?_
                  refine Seg.step rfl rfl (Yd.move rfl) ?_
                  refine Seg.step rfl rfl (Yd.gtr rfl rfl) ?_
                  refine Seg.nil ?_
                  refine At.then_ ?_
                  refine Cd.condk rfl (fun h103 => ?_) (fun h103 => ?_)
                  · exfalso; omega
                  · refine Cd.skip ?_
                    refine At.blk ?_
                    refine At.then_ ?_
                    refine Cd.region ?_
                    refine Seg.step rfl rfl (Yd.move rfl) ?_
                    refine Seg.step rfl rfl (Yd.addI rfl rfl (by omega)) ?_
                    refine Seg.step rfl rfl (Yd.assign rfl) ?_
                    refine Seg.nil ?_
                    exact At.round (⟨q.drop 1, sum + p, u, k + 1⟩ : NuS) (.cons rfl (.cons rfl (.cons rfl (.cons rfl (.cons rfl (.nil _)))))) ⟨⟨hs, hu, by show k + 1 + (q.drop 1).length = _; omega, by show 1 ≤ k + 1; omega⟩, hE0⟩ (by show (q.drop 1).length < q.length; omega)
          · refine Cd.seq ?_
            refine Cd.block ?_
            refine Cd.seq ?_
            refine Cd.seq ?_
            refine Cd.region ?_
            refine Seg.step rfl rfl (Yd.move rfl) ?_
            refine Seg.step rfl rfl (Yd.eqlS rfl rfl) ?_
            refine Seg.nil ?_
            refine At.then_ ?_
            refine Cd.condk rfl (fun h14 => ?_) (fun h14 => ?_)
            · contradiction
            · refine Cd.skip ?_
              refine At.then_ ?_
              refine Cd.seq ?_
              refine Cd.region ?_
              refine Seg.step rfl rfl (Yd.move rfl) ?_
              refine Seg.step rfl rfl (Yd.indexStr rfl rfl rfl (NatOf.cast 0) (by omega)) ?_
              (refine Seg.call rfl rfl (own_of rfl) rfl (pfigure_any _ _) ?_; rw [← hc, hk, hfn]; rintro _ w22 ⟨rfl, hE22⟩)
              replace hE0 := Ext.trans hE0 hE22
              refine Seg.step rfl rfl (Yd.move rfl) ?_
              refine Seg.step rfl rfl (Yd.extract rfl rfl) ?_
              refine Seg.step rfl rfl (Yd.extract rfl rfl) ?_
              refine Seg.step rfl rfl (Yd.assign rfl) ?_
              refine Seg.step rfl rfl (Yd.assign rfl) ?_
              refine Seg.nil ?_
              refine At.then_ ?_
              refine Cd.seq ?_
              refine Cd.seq ?_
              refine Cd.region ?_
              refine Seg.step rfl rfl (Yd.move rfl) ?_
              refine Seg.step rfl rfl (Yd.not rfl) ?_
              refine Seg.nil ?_
              refine At.then_ ?_
              refine Cd.condF rfl ?_
              refine Cd.skip ?_
              refine At.then_ ?_
              refine Cd.seq ?_
              refine Cd.region ?_
              refine Seg.step rfl rfl (Yd.move rfl) ?_
              refine Seg.step rfl rfl (Yd.slStrL rfl rfl rfl (NatOf.cast 1) (by omega)) ?_
              refine Seg.step rfl rfl (Yd.assign rfl) ?_
              refine Seg.nil ?_
              refine At.then_ ?_
              refine Cd.seq ?_
              refine Cd.region ?_
              refine Seg.step rfl rfl (Yd.move rfl) ?_
              refine Seg.step rfl rfl (Yd.move rfl) ?_
              refine Seg.step rfl rfl (Yd.move rfl) ?_
              first | (refine Seg.step rfl rfl (Yd.mulI rfl rfl (by omega)) ?_; first | rw [v1] | rw [v3]) | (refine Seg.step rfl rfl (Yd.addI rfl rfl (by omega)) ?_; rw [v4]) | (refine Seg.step rfl rfl (Yd.subI rfl rfl (by omega)) ?_; rw [v2])
              first | (refine Seg.step rfl rfl (Yd.mulI rfl rfl (by omega)) ?_; first | rw [v1] | rw [v3]) | (refine Seg.step rfl rfl (Yd.addI rfl rfl (by omega)) ?_; rw [v4]) | (refine Seg.step rfl rfl (Yd.subI rfl rfl (by omega)) ?_; rw [v2])
              refine Seg.step rfl rfl (Yd.assign rfl) ?_
              refine Seg.nil ?_
              refine At.then_ ?_
              refine Cd.seq ?_
              refine Cd.seq ?_
              refine Cd.region ?_
              refine Seg.step rfl rfl (Yd.move rfl) ?_
              refine Seg.step rfl rfl (Yd.gtr rfl rfl) ?_
              refine Seg.nil ?_
              refine At.then_ ?_
              refine Cd.condk rfl (fun h64 => ?_) (fun h64 => ?_)
              · exfalso; omega
              · refine Cd.skip ?_
                refine At.then_ ?_
                refine Cd.seq ?_
                refine Cd.region ?_
                refine Seg.step rfl rfl (Yd.move rfl) ?_
                refine Seg.step rfl rfl (Yd.move rfl) ?_
                (refine Seg.call rfl rfl (own_of rfl) rfl (pbound_any _ _ _ ⟨by omega, by omega⟩ ⟨by omega, by omega⟩) ?_; rw [ht]; rintro _ w72 ⟨rfl, hE72⟩)
                replace hE22 := Ext.trans hE22 hE72
                replace hE0 := Ext.trans hE0 hE72
                refine Seg.step rfl rfl (Yd.assign rfl) ?_
                refine Seg.nil ?_
                refine At.then_ ?_
                refine Cd.seq ?_
                refine Cd.seq ?_
                refine Cd.region ?_
                refine Seg.step rfl rfl (Yd.move rfl) ?_
                refine Seg.step rfl rfl (Yd.move rfl) ?_
                refine Seg.step rfl rfl (Yd.lss rfl rfl) ?_
                refine Seg.nil ?_
                refine At.then_ ?_
                refine Cd.condk rfl (fun h84 => ?_) (fun h84 => ?_)
                · exfalso; omega
                · refine Cd.skip ?_
                  refine At.then_ ?_
                  refine Cd.seq ?_
                  refine Cd.region ?_
                  refine Seg.step rfl rfl (Yd.move rfl) ?_
                  refine Seg.step rfl rfl (Yd.move rfl) ?_
                  first | (refine Seg.step rfl rfl (Yd.mulI rfl rfl (by omega)) ?_; first | rw [v1] | rw [v3]) | (refine Seg.step rfl rfl (Yd.addI rfl rfl (by omega)) ?_; rw [v4]) | (refine Seg.step rfl rfl (Yd.subI rfl rfl (by omega)) ?_; rw [v2])
                  first | (refine Seg.step rfl rfl (Yd.mulI rfl rfl (by omega)) ?_; first | rw [v1] | rw [v3]) | (refine Seg.step rfl rfl (Yd.addI rfl rfl (by omega)) ?_; rw [v4]) | (refine Seg.step rfl rfl (Yd.subI rfl rfl (by omega)) ?_; rw [v2])
                  refine Seg.step rfl rfl (Yd.assign rfl) ?_
                  refine Seg.nil ?_
                  refine At.then_ ?_
                  refine Cd.seq ?_
                  refine Cd.region ?_
                  refine Seg.step rfl rfl (Yd.move rfl) ?_
                  refine Seg.step rfl rfl (Yd.gtr rfl rfl) ?_
                  refine Seg.nil ?_
                  refine At.then_ ?_
                  refine Cd.condk rfl (fun h103 => ?_) (fun h103 => ?_)
                  · refine Cd.seq ?_
                    refine Cd.region ?_
                    refine Seg.step rfl rfl (Yd.assign rfl) ?_
                    refine Seg.step rfl rfl (Yd.assign rfl) ?_
                    refine Seg.step rfl rfl (Yd.assign rfl) ?_
                    refine Seg.nil ?_
                    refine At.then_ ?_
                    refine Cd.ret ?_
                    refine At.blk_ret ?_
                    refine At.then_ret ?_
                    refine At.then_ret ?_
                    refine At.blk_ret ?_
                    exact At.ret Tryz.results98 (.tmp rfl (.tmp rfl (.tmp rfl .nil))) ⟨⟨0, 6, [], rfl, fun h => by cases h⟩, hE0⟩
                  · exfalso; omega
      · refine Cd.seq ?_
        refine Cd.block ?_
        refine Cd.seq ?_
        refine Cd.seq ?_
        refine Cd.region ?_
        refine Seg.step rfl rfl (Yd.move rfl) ?_
        refine Seg.step rfl rfl (Yd.eqlS rfl rfl) ?_
        refine Seg.nil ?_
        refine At.then_ ?_
        refine Cd.condk rfl (fun h14 => ?_) (fun h14 => ?_)
        · contradiction
        · refine Cd.skip ?_
          refine At.then_ ?_
          refine Cd.seq ?_
          refine Cd.region ?_
          refine Seg.step rfl rfl (Yd.move rfl) ?_
          refine Seg.step rfl rfl (Yd.indexStr rfl rfl rfl (NatOf.cast 0) (by omega)) ?_
          (refine Seg.call rfl rfl (own_of rfl) rfl (pfigure_any _ _) ?_; rw [← hc, hk, hfn]; rintro _ w22 ⟨rfl, hE22⟩)
          replace hE0 := Ext.trans hE0 hE22
          refine Seg.step rfl rfl (Yd.move rfl) ?_
          refine Seg.step rfl rfl (Yd.extract rfl rfl) ?_
          refine Seg.step rfl rfl (Yd.extract rfl rfl) ?_
          refine Seg.step rfl rfl (Yd.assign rfl) ?_
          refine Seg.step rfl rfl (Yd.assign rfl) ?_
          refine Seg.nil ?_
          refine At.then_ ?_
          refine Cd.seq ?_
          refine Cd.seq ?_
          refine Cd.region ?_
          refine Seg.step rfl rfl (Yd.move rfl) ?_
          refine Seg.step rfl rfl (Yd.not rfl) ?_
          refine Seg.nil ?_
          refine At.then_ ?_
          refine Cd.condF rfl ?_
          refine Cd.skip ?_
          refine At.then_ ?_
          refine Cd.seq ?_
          refine Cd.region ?_
          refine Seg.step rfl rfl (Yd.move rfl) ?_
          refine Seg.step rfl rfl (Yd.slStrL rfl rfl rfl (NatOf.cast 1) (by omega)) ?_
          refine Seg.step rfl rfl (Yd.assign rfl) ?_
          refine Seg.nil ?_
          refine At.then_ ?_
          refine Cd.seq ?_
          refine Cd.region ?_
          refine Seg.step rfl rfl (Yd.move rfl) ?_
          refine Seg.step rfl rfl (Yd.move rfl) ?_
          refine Seg.step rfl rfl (Yd.move rfl) ?_
          first | (refine Seg.step rfl rfl (Yd.mulI rfl rfl (by omega)) ?_; rw [v1]) | (refine Seg.step rfl rfl (Yd.addI rfl rfl (by omega)) ?_; rw [v4])
          first | (refine Seg.step rfl rfl (Yd.mulI rfl rfl (by omega)) ?_; rw [v1]) | (refine Seg.step rfl rfl (Yd.addI rfl rfl (by omega)) ?_; rw [v4])
          refine Seg.step rfl rfl (Yd.assign rfl) ?_
          refine Seg.nil ?_
          refine At.then_ ?_
          refine Cd.seq ?_
          refine Cd.seq ?_
          refine Cd.region ?_
          refine Seg.step rfl rfl (Yd.move rfl) ?_
          refine Seg.step rfl rfl (Yd.gtr rfl rfl) ?_
          refine Seg.nil ?_
          refine At.then_ ?_
          refine Cd.condk rfl (fun h64 => ?_) (fun h64 => ?_)
          · refine Cd.seq ?_
            refine Cd.region ?_
            refine Seg.step rfl rfl (Yd.assign rfl) ?_
            refine Seg.step rfl rfl (Yd.assign rfl) ?_
            refine Seg.step rfl rfl (Yd.assign rfl) ?_
            refine Seg.nil ?_
            refine At.then_ ?_
            refine Cd.ret ?_
            refine At.then_ret ?_
            refine At.blk_ret ?_
            refine At.then_ret ?_
            refine At.then_ret ?_
            refine At.blk_ret ?_
            exact At.ret Tryz.results98 (.tmp rfl (.tmp rfl (.tmp rfl .nil))) ⟨⟨0, 6, [], rfl, fun h => by cases h⟩, hE0⟩
          · exfalso; omega
theorem own_down {w : World} {base base' e k m : Nat} {v : Value} {cs : List Value} (h : w.ownsRow base e k v m cs) (hb : base' ≤ base) : w.ownsRow base' e k v m cs :=
  ⟨h.1, h.2.imp id fun ⟨g, cap, cur, a, b, c⟩ => ⟨g, cap, cur, a, Nat.le_trans hb b, c⟩⟩
structure BaS where
  j : Nat
  ps : List Nat
  v : Value
theorem pbasics_any (s : List UInt8) (w : World) (hl : s.length ≤ 1000) : Ret Tryz.prog 97 #[.string ⟨s.toArray⟩] w fun v w' => (∃ (ps : List Nat) (u : Value) (e : Nat) (r : List UInt8), v = .tuple #[u, .string ⟨r.toArray⟩, .int .i64 (e : Int)] ∧ (e = 0 → OwnR w' w.heap.size u ps ∧ ps.length + r.length ≤ s.length ∧ ∀ c ∈ ps, c < 1114112)) ∧ Ext w w' := by
  have hE0 := Ext.refl w
  refine Ret.body Tryz.func97 rfl Tryz.ntmps97 rfl ?_
  obtain ⟨at', hat⟩ : ∃ i, i = Lib.lastIndexByte ⟨s.toArray⟩ 45 := ⟨_, rfl⟩
  have hspec := Lib.lastIndexByte_spec ⟨s.toArray⟩ 45
  rw [← hat] at hspec
  rcases hspec with ⟨hm, _⟩ | ⟨i, hi, hii, _, _⟩
  · refine Cd.seq ?_
    refine Cd.region ?_
    refine Seg.step rfl rfl (Yd.assign rfl) ?_
    refine Seg.step rfl rfl (Yd.assign rfl) ?_
    refine Seg.step rfl rfl (Yd.assign rfl) ?_
    refine Seg.nil ?_
    refine At.then_ ?_
    refine Cd.seq ?_
    refine Cd.region ?_
    refine Seg.step rfl rfl (Yd.move rfl) ?_
    (refine Seg.call rfl rfl (own_of rfl) rfl (lastidx_any s 45 _ (by omega)) ?_; rw [← hat, hm]; rintro _ w11 ⟨rfl, hE11⟩)
    replace hE0 := Ext.trans hE0 hE11
    refine Seg.step rfl rfl (Yd.assign rfl) ?_
    refine Seg.nil ?_
    refine At.then_ ?_
    refine Cd.seq ?_
    refine Cd.seq ?_
    refine Cd.region ?_
    refine Seg.step rfl rfl (Yd.move rfl) ?_
    refine Seg.step rfl rfl (Yd.lss rfl rfl) ?_
    refine Seg.nil ?_
    refine At.then_ ?_
    refine Cd.condT rfl ?_
    refine Cd.seq ?_
    refine Cd.region ?_
    refine Seg.step rfl rfl (Yd.move rfl) ?_
    refine Seg.step rfl rfl (Yd.assign rfl) ?_
    refine Seg.step rfl rfl (Yd.assign rfl) ?_
    refine Seg.step rfl rfl (Yd.assign rfl) ?_
    refine Seg.nil ?_
    refine At.then_ ?_
    refine Cd.ret ?_
    refine At.then_ret ?_
    exact At.ret Tryz.results97 (.tmp rfl (.tmp rfl (.tmp rfl .nil))) ⟨⟨[], _, 0, s, rfl, fun _ => ⟨World.ownsRow_nil _ _ _ _, by show 0 + s.length ≤ _; omega, fun _ h => (by cases h)⟩⟩, hE0⟩
  · have hi : i < s.length := by
      have h2 : i < s.toArray.size := hi
      rwa [List.size_toArray] at h2
    refine Cd.seq ?_
    refine Cd.region ?_
    refine Seg.step rfl rfl (Yd.assign rfl) ?_
    refine Seg.step rfl rfl (Yd.assign rfl) ?_
    refine Seg.step rfl rfl (Yd.assign rfl) ?_
    refine Seg.nil ?_
    refine At.then_ ?_
    refine Cd.seq ?_
    refine Cd.region ?_
    refine Seg.step rfl rfl (Yd.move rfl) ?_
    (refine Seg.call rfl rfl (own_of rfl) rfl (lastidx_any s 45 _ (by omega)) ?_; rw [← hat, hii]; rintro _ w11 ⟨rfl, hE11⟩)
    replace hE0 := Ext.trans hE0 hE11
    refine Seg.step rfl rfl (Yd.assign rfl) ?_
    refine Seg.nil ?_
    refine At.then_ ?_
    refine Cd.seq ?_
    refine Cd.seq ?_
    refine Cd.region ?_
    refine Seg.step rfl rfl (Yd.move rfl) ?_
    refine Seg.step rfl rfl (Yd.lss rfl rfl) ?_
    refine Seg.nil ?_
    refine At.then_ ?_
    refine Cd.condF rfl ?_
    refine Cd.skip ?_
    refine At.then_ ?_
    refine Cd.seq ?_
    refine Cd.region ?_
    refine Seg.step rfl rfl (Yd.move rfl) ?_
    (refine Seg.makeOwn rfl rfl rfl rfl rfl rfl rfl rfl ⟨by omega, by decide⟩ (fun w28 b28 hO28 hE28 hB28 => ?_); have hb28 := Below.size hE11; subst hB28)
    refine Seg.step rfl rfl (Yd.assign rfl) ?_
    refine Seg.nil ?_
    refine At.then_ ?_
    refine Cd.seq ?_
    refine Cd.seq ?_
    refine Cd.region ?_
    refine Seg.step rfl rfl (Yd.move rfl) ?_
    refine Seg.step rfl rfl (Yd.move rfl) ?_
    refine Seg.nil ?_
    refine At.then_ ?_
    refine Cd.block ?_
    have hO28 : OwnR w28 w11.heap.size _ [] := hO28
    have hO0 : OwnR w28 w.heap.size (.slice (some ⟨w11.heap.size, 0, none⟩) 0 i) [] := own_down hO28 hb28
    clear hO28
    refine Cd.loop (σ := BaS) (fun t => [(0, .string ⟨s.toArray⟩), (5, .int .i64 (i : Int)), (6, t.v), (15, .int .i64 (i : Int)), (16, .int .i64 (t.j : Int))])
      (fun t w' => (t.j ≤ i ∧ t.ps.length = t.j ∧ ∀ c ∈ t.ps, c < 1114112) ∧ OwnR w' w.heap.size t.v t.ps ∧ Ext w w') (fun t => i - t.j) ⟨0, [], _⟩ (.cons rfl (.cons rfl (.cons rfl (.cons rfl (.cons rfl (.nil _)))))) ⟨⟨Nat.zero_le _, rfl, fun _ h => (by cases h)⟩, hO0, Ext.trans hE11 hE28⟩ ?_
    clear hE0 hO0
    rintro ⟨j, ps, v⟩ w1 ⟨⟨h1, h2, h3⟩, hO, hE1⟩
    simp only at h1 h2 h3 hO ⊢
    have kp : Keep (∀ c ∈ ps, c < 1114112) := h3
    clear h3
    have kO : Keep (OwnR w1 w.heap.size v ps) := hO
    have kE1 : Keep (Ext w w1) := hE1
    have hEn := Ext.refl w1
    clear hO
    by_cases hlt : j < i
    · have hj : j < s.length := by omega
      obtain ⟨x, hx⟩ : ∃ x : UInt8, x = s.getD j 0 := ⟨_, rfl⟩
      by_cases hb : x.toNat < 128
      · have hcv : IntKind.i32.wrap (x.toNat : Int) = (x.toNat : Int) := u8_i32 _ x.toNat_lt
        refine Cd.seq ?_
        refine Cd.region ?_
        refine Seg.step rfl rfl (Yd.lss rfl rfl) ?_
        refine Seg.nil ?_
        refine At.then_ ?_
        refine Cd.seq ?_
        refine Cd.condk rfl (fun h35 => ?_) (fun h35 => ?_)
        · refine Cd.skip ?_
          refine At.then_ ?_
          refine Cd.seq ?_
          refine Cd.block ?_
          refine Cd.seq ?_
          refine Cd.region ?_
          refine Seg.step rfl rfl (Yd.move rfl) ?_
          refine Seg.step rfl rfl (Yd.assign rfl) ?_
          refine Seg.nil ?_
          refine At.then_ ?_
          refine Cd.seq ?_
          refine Cd.seq ?_
          refine Cd.region ?_
          refine Seg.step rfl rfl (Yd.move rfl) ?_
          refine Seg.step rfl rfl (Yd.move rfl) ?_
          (refine Seg.step rfl rfl (Yd.indexStr rfl rfl rfl (NatOf.cast _) hj) ?_; rw [← hx])
          refine Seg.step rfl rfl (Yd.geq rfl rfl) ?_
          refine Seg.nil ?_
          refine At.then_ ?_
          refine Cd.condk rfl (fun h56 => ?_) (fun h56 => ?_)
          · exfalso; omega
          · refine Cd.skip ?_
            refine At.then_ ?_
            refine Cd.region ?_
            refine Seg.step rfl rfl (Yd.move rfl) ?_
            refine Seg.step rfl rfl (Yd.move rfl) ?_
            refine Seg.step rfl rfl (Yd.move rfl) ?_
            (refine Seg.step rfl rfl (Yd.indexStr rfl rfl rfl (NatOf.cast _) hj) ?_; rw [← hx])
            (refine Seg.step rfl rfl (Yd.convN rfl rfl rfl hcv) ?_)
            refine Seg.buildSliceV rfl rfl rfl rfl rfl rfl rfl rfl rfl rfl (fun w66 b66 hE66 hB66 hb66 hO66 => ?_)
            have hlt66_0 := Nat.le_trans hE1.size hb66
            have hlt66_1 := Nat.le_trans hEn.size hb66
            replace hE1 := Ext.trans hE1 hE66
            replace hEn := Ext.trans hEn hE66
            (refine Seg.appR (m := [x.toNat]) rfl rfl rfl rfl rfl (own_ext kO hEn) (own_sl (by assumption)) (Below.size (Ext.trans kE1 hEn)) (by show _ + 1 ≤ _; omega) (fun v67 w67 hO67 _ hX67 hS67 _ => ?_); have hE3 := hX67 w (Ext.trans kE1 hEn) (Nat.le_refl _))
            refine Seg.step rfl rfl (Yd.assign rfl) ?_
            refine Seg.nil ?_
            refine At.blk ?_
            refine At.then_ ?_
            refine Cd.region ?_
            refine Seg.step rfl rfl (Yd.addI rfl rfl (by omega)) ?_
            refine Seg.step rfl rfl (Yd.move rfl) ?_
            refine Seg.nil ?_
            exact At.round (⟨j + 1, ps ++ [x.toNat], _⟩ : BaS) (.cons rfl (.cons rfl (.cons rfl (.cons rfl (.cons rfl (.nil _)))))) ⟨⟨hlt, by rw [List.length_append, h2]; rfl, fun c hc => (List.mem_append.1 hc).elim (kp c) (fun h => by rw [List.mem_singleton] at h; rw [h]; omega)⟩, by assumption, hE3⟩ (by show i - (j + 1) < i - j; omega)
        · exfalso; omega
      · refine Cd.seq ?_
        refine Cd.region ?_
        refine Seg.step rfl rfl (Yd.lss rfl rfl) ?_
        refine Seg.nil ?_
        refine At.then_ ?_
        refine Cd.seq ?_
        refine Cd.condk rfl (fun h35 => ?_) (fun h35 => ?_)
        · refine Cd.skip ?_
          refine At.then_ ?_
          refine Cd.seq ?_
          refine Cd.block ?_
          refine Cd.seq ?_
          refine Cd.region ?_
          refine Seg.step rfl rfl (Yd.move rfl) ?_
          refine Seg.step rfl rfl (Yd.assign rfl) ?_
          refine Seg.nil ?_
          refine At.then_ ?_
          refine Cd.seq ?_
          refine Cd.seq ?_
          refine Cd.region ?_
          refine Seg.step rfl rfl (Yd.move rfl) ?_
          refine Seg.step rfl rfl (Yd.move rfl) ?_
          (refine Seg.step rfl rfl (Yd.indexStr rfl rfl rfl (NatOf.cast _) hj) ?_; rw [← hx])
          refine Seg.step rfl rfl (Yd.geq rfl rfl) ?_
          refine Seg.nil ?_
          refine At.then_ ?_
          refine Cd.condk rfl (fun h56 => ?_) (fun h56 => ?_)
          · refine Cd.seq ?_
            refine Cd.region ?_
            refine Seg.step rfl rfl (Yd.assign rfl) ?_
            refine Seg.step rfl rfl (Yd.assign rfl) ?_
            refine Seg.step rfl rfl (Yd.assign rfl) ?_
            refine Seg.nil ?_
            refine At.then_ ?_
            refine Cd.ret ?_
            refine At.then_ret ?_
            refine At.blk_ret ?_
            refine At.then_ret ?_
            refine At.then_ret ?_
            refine At.blk_ret ?_
            refine At.then_ret ?_
            exact At.ret Tryz.results97 (.tmp rfl (.tmp rfl (.tmp rfl .nil))) ⟨⟨[], _, 5, [], rfl, fun h => by cases h⟩, Ext.trans kE1 hEn⟩
          · exfalso; omega
        · exfalso; omega
    · have hdl : (s.drop (i + 1)).length = s.length - (i + 1) := List.length_drop
      have ⟨ao, c, hv, _, _, _⟩ := own_sl kO
      subst hv
      refine Cd.seq ?_
      refine Cd.region ?_
      refine Seg.step rfl rfl (Yd.lss rfl rfl) ?_
      refine Seg.nil ?_
      refine At.then_ ?_
      refine Cd.seq ?_
      refine Cd.condk rfl (fun h35 => ?_) (fun h35 => ?_)
      · exfalso; omega
      · refine Cd.exit ?_
        refine At.then_exit ?_
        refine At.then_exit ?_
        refine At.blk_same ?_
        refine At.then_ ?_
        refine Cd.seq ?_
        refine Cd.seq ?_
        refine Cd.region ?_
        refine Seg.step rfl rfl (Yd.move rfl) ?_
        refine Seg.step rfl rfl (Yd.lenS rfl rfl) ?_
        refine Seg.step rfl rfl (Yd.gtr rfl rfl) ?_
        refine Seg.nil ?_
        refine At.then_ ?_
        refine Cd.condk rfl (fun h50 => ?_) (fun h50 => ?_)
        · exfalso; omega
        · refine Cd.skip ?_
          refine At.then_ ?_
          refine Cd.seq ?_
          refine Cd.quiet (by kernel_rfl) (by kernel_rfl) ?_
          refine SegQ.step rfl rfl (fun w' hw' => Yd.move rfl) ?_
          refine SegQ.step rfl rfl (fun w' hw' => Yd.move rfl) ?_
          refine SegQ.step rfl rfl (fun w' hw' => Yd.move rfl) ?_
          refine SegQ.step rfl rfl (fun w' hw' => Yd.addI rfl rfl (by omega)) ?_
          refine SegQ.step rfl rfl (fun w' hw' => Yd.slStrL rfl rfl rfl (NatOf.add (NatOf.cast _) (NatOf.cast 1)) (by omega)) ?_
          refine SegQ.step rfl rfl (fun w' hw' => Yd.assign rfl) ?_
          refine SegQ.step rfl rfl (fun w' hw' => Yd.assign rfl) ?_
          refine SegQ.step rfl rfl (fun w' hw' => Yd.assign rfl) ?_
          refine SegQ.nil fun w64 hE64 => ?_
          replace hE1 := Ext.trans hE1 hE64
          replace hEn := Ext.trans hEn hE64
          refine At.then_ ?_
          refine Cd.ret ?_
          exact At.ret Tryz.results97 (.tmp rfl (.tmp rfl (.tmp rfl .nil))) ⟨⟨ps, _, 0, s.drop (i + 1), rfl, fun _ => ⟨own_ext kO hEn, by omega, kp⟩⟩, Ext.trans kE1 hEn⟩
theorem own_row {w : World} {base e k m : Nat} {v : Value} {cs : List Value} (h : w.ownsRow base e k v m cs) (hm : 1 ≤ m) :
    ∃ (g cap : Nat) (cur : List Value), v = .slice (some ⟨g, 0, none⟩) m cap ∧ base ≤ g ∧ w.heap[g]? = some (.cells cur.toArray e (0, 0)) ∧ m ≤ cap ∧ cap ≤ maxLen ∧ cur.length = cap * k ∧ cur.take (m * k) = cs := by
  rcases h.2 with ⟨_, h0⟩ | ⟨g, cap, cur, a, b, c, d, e', f, i⟩
  · omega
  · exact ⟨g, cap, cur.toList, a, b, by simpa using c, d, e', by simpa using f, i⟩
section
variable {P : Program} [Tys P] {n : Fm} {fr : Fr} {w : World} {x y : Operand} {U T : TypeId}
theorem addr_from (b o j : Nat) : Addr.add ⟨b, o, none⟩ j = ⟨b, o + j, none⟩ := by unfold Addr.add; split <;> simp_all
/-- 'copy' of a part of a row of one's own onto another part of it. -/
theorem run_copy_in {e g lo lo' m cap by' : Nat} {cur : List Value} {t : TypeId} (hU : slOf P U = some (e, 1)) (hby : byOf P e = some by') (hsz : szOf P e = some 1) (hB : w.heap[g]? = some (.cells cur.toArray t (0, 0))) (h1 : lo ≤ m) (h2 : lo' ≤ m) (h3 : m ≤ cap) (hl : cur.length = cap)
    (hc : ∀ c ∈ cur.take m, c.oneCell' = true) : ∃ (w1 : World), (Builtin.copy_ #[U, U] T #[sliced (some ⟨g, 0, none⟩) lo m cap 1, sliced (some ⟨g, 0, none⟩) lo' m cap 1]).run P w = .ok (.int .i64 (Nat.min (m - lo') (m - lo) : Nat)) w1 ∧ Wr g w w1 ∧
      w1.heap[g]? = some (.cells (cur.take lo ++ (((cur.take m).drop lo').take (m - lo) ++ cur.drop (lo + Nat.min (m - lo') (m - lo)))).toArray t (0, 0)) := by
  obtain ⟨hund, _⟩ := und_sl hU
  obtain ⟨i, hi, _, his⟩ := run_inf hby hsz
  have hinf : (P.info? e).map (·.size) = some 1 := by rw [info_of_run hi]; simp [his]
  have hcl : (((cur.take m).drop lo').take (m - lo)).length = Nat.min (m - lo') (m - lo) := by
    rw [List.length_take, List.length_drop, List.length_take, hl]
    show min (m - lo) (min m cap - lo') = min (m - lo') (m - lo)
    omega
  by_cases h0 : Nat.min (m - lo') (m - lo) = 0
  · refine ⟨w, ?_, (Ext.refl w).wr g, ?_⟩
    · rw [h0]
      exact run_copy_none w U U T e _ _ _ _ _ _ hund hinf h0
    · have : ((cur.take m).drop lo').take (m - lo) = [] := List.eq_nil_of_length_eq_zero (by rw [hcl, h0])
      rw [this, h0, List.nil_append, Nat.add_zero, List.take_append_drop]
      exact hB
  · have hm1 : min (m - lo') (m - lo) ≠ 0 := h0
    have e1 : sliced (some ⟨g, 0, none⟩) lo m cap 1 = .slice (some ⟨g, lo, none⟩) (m - lo) (cap - lo) := by
      unfold sliced
      rw [if_neg (by omega)]
      show Value.slice (some (Addr.add ⟨g, 0, none⟩ _)) _ _ = _
      rw [addr_from]; simp
    have e2 : sliced (some ⟨g, 0, none⟩) lo' m cap 1 = .slice (some ⟨g, lo', none⟩) (m - lo') (cap - lo') := by
      unfold sliced
      rw [if_neg (by omega)]
      show Value.slice (some (Addr.add ⟨g, 0, none⟩ _)) _ _ = _
      rw [addr_from]; simp
    rw [e1, e2]
    have hrun := run_copy_row (P := P) w U U T e g lo (m - lo) (cap - lo) ⟨g, lo', none⟩ (m - lo') (cap - lo') cur.toArray t (((cur.take m).drop lo').take (m - lo)) hund hinf hB hcl (fun j v hj => by
      have hj1 : j < Nat.min (m - lo') (m - lo) := by rw [← hcl]; exact (List.getElem?_eq_some_iff.1 hj).1
      have hj2 : j < min (m - lo') (m - lo) := hj1
      rw [List.getElem?_take, if_pos (by omega), List.getElem?_drop, List.getElem?_take, if_pos (by omega)] at hj
      have hB2 : Bx w g cur := ⟨t, hB⟩
      have := hB2.row (lo' + j) v hj
      rw [addr_from] at this ⊢
      rw [Nat.zero_add] at this; exact this) (by rw [hcl]; simp only [List.size_toArray, hl]; show lo + min (m - lo') (m - lo) ≤ cap; omega)
      (fun v hv => hc v (List.mem_of_mem_drop (List.mem_of_mem_take hv)))
    rw [hcl] at hrun
    refine ⟨_, hrun, ⟨rfl, rfl, rfl, by simp, fun k _ hne => setRow_other w g k _ (fun e => hne (by rw [e]))⟩, ?_⟩
    rw [setRow_heap w g _ _ t _ hB]
    simp
theorem own_pos {base e g m cap : Nat} {X : List Value} (h : w.ownsRow base e 1 (.slice (some ⟨g, 0, none⟩) m cap) m X) : ∃ cur : List Value, base ≤ g ∧ w.heap[g]? = some (.cells cur.toArray e (0, 0)) ∧ m ≤ cap ∧ cap ≤ maxLen ∧ cur.length = cap ∧ cur.take m = X := by
  rcases h.2 with ⟨h0, _⟩ | ⟨g', cap', cur, a, b, c, d, e', f, i⟩
  · cases h0
  · cases a
    exact ⟨cur.toList, b, by simpa using c, d, e', by simpa using f, by simpa using i⟩
theorem own_mk {base e g m cap : Nat} {X cur : List Value} (h1 : base ≤ g) (h2 : w.heap[g]? = some (.cells cur.toArray e (0, 0))) (h3 : m ≤ cap) (h4 : cap ≤ maxLen) (h5 : cur.length = cap) (h6 : cur.take m = X) : w.ownsRow base e 1 (.slice (some ⟨g, 0, none⟩) m cap) m X :=
  ⟨by rw [← h6, List.length_take]; omega, .inr ⟨g, cap, cur.toArray, rfl, h1, h2, h3, h4, by simpa using h5, by simpa using h6⟩⟩
/-- .. within a slice of one's own. -/
theorem copy_own {base e g lo lo' m cap by' : Nat} {X : List Value} (hU : slOf P U = some (e, 1)) (hby : byOf P e = some by') (hsz : szOf P e = some 1) (ho : w.ownsRow base e 1 (.slice (some ⟨g, 0, none⟩) m cap) m X) (h1 : lo ≤ m) (h2 : lo' ≤ lo) (hc : ∀ c ∈ X, c.oneCell' = true) :
    ∃ w1, (Builtin.copy_ #[U, U] T #[sliced (some ⟨g, 0, none⟩) lo m cap 1, sliced (some ⟨g, 0, none⟩) lo' m cap 1]).run P w = .ok (.int .i64 (m - lo : Nat)) w1 ∧ Wr g w w1 ∧ w1.ownsRow base e 1 (.slice (some ⟨g, 0, none⟩) m cap) m (X.take lo ++ (X.drop lo').take (m - lo)) := by
  obtain ⟨cur, a1, a2, a3, a4, a5, a6⟩ := own_pos ho
  obtain ⟨w1, b1, b2, b3⟩ := run_copy_in (T := T) hU hby hsz a2 h1 (Nat.le_trans h2 h1) a3 a5 (by rw [a6]; exact hc)
  have hm : Nat.min (m - lo') (m - lo) = m - lo := Nat.min_eq_right (by omega)
  rw [hm] at b1 b3
  have hXl : X.length = m := by rw [← a6, List.length_take]; omega
  have c1 : cur.take lo = X.take lo := by rw [← a6, List.take_take, Nat.min_eq_left h1]
  rw [a6, c1] at b3
  have cl : (X.take lo ++ (X.drop lo').take (m - lo)).length = m := by
    rw [List.length_append, List.length_take, List.length_take, List.length_drop]; omega
  refine ⟨w1, b1, b2, own_mk a1 b3 a3 a4 ?_ ?_⟩
  · rw [← List.append_assoc, List.length_append, cl, List.length_drop]; omega
  · rw [← List.append_assoc, List.take_append_of_le_length (by omega), List.take_of_length_le (by omega)]
/-- A store into a slice of one's own. -/
theorem Seg.storeOwn {ops : Array Oper} {Q : Exit → Act → World → Prop} {pos : String} {aft : Array Edge} {gg : Option (Nat × Bool)} {rest : List Oper} {base e g k m cap : Nat} {X : List Value} {v : Value}
    (hg : gd ops fr gg = some true) (hU : szOf P U = some 1) (hx : Fr.ev fr x = some (.pointer (some (Addr.add ⟨g, 0, none⟩ k)))) (hy : Fr.ev fr y = some v) (hv : v.oneCell' = true) (ho : w.ownsRow base e 1 (.slice (some ⟨g, 0, none⟩) m cap) m X) (hk : k < m)
    (kk : ∀ w1, Wr g w w1 → w1.ownsRow base e 1 (.slice (some ⟨g, 0, none⟩) m cap) m (X.set k v) → Seg P n ops Q rest fr w1) : Seg P n ops Q (⟨none, .store U x y, T, pos, aft, gg⟩ :: rest) fr w := by
  obtain ⟨cur, a1, a2, a3, a4, a5, a6⟩ := own_pos ho
  have hB : Bx w g cur := ⟨e, a2⟩
  have hkc : k < cur.length := by omega
  refine Seg.step0 (w' := w.setCell ⟨g, k, none⟩ v) hg (.mk fun a ha d pos aft g => by
    simp [execOp, Instr.storeAt, Instr.sureAddr, ha.ev hx, ha.ev hy, run_store1 hU hv hB hkc]) (kk _ (hB.set k v).2 (own_mk (cur := cur.set k v) a1 ?_ a3 a4 (by rw [List.length_set]; exact a5) ?_))
  · rw [heap_setCell_same' w g k cur.toArray e (0, 0) v a2]
    simp
  · rw [List.take_set, a6]
omit [Tys P] in
theorem Yd.of_run {U' : TypeId} {u v r : Value} {w1 : World} (hx : Fr.ev fr x = some u) (hy : Fr.ev fr y = some v) (h : (Builtin.copy_ #[U, U'] T #[u, v]).run P w = .ok r w1) : Yd P n (.call ⟨.builtin .copy, #[x, y], #[U, U']⟩) T fr w r w1 :=
  .val fun a ha d pos aft g => by
    simp [execOp, resolve, invoke, builtin, ha.ev hx, ha.ev hy, h]
end
structure DeS where
  s : List UInt8
  l : List Nat
  v : Value
  n : Nat
  at' : Nat
  bias : Nat
  first : Bool
/-- Decode, as far as it is asked: points, or an error. -/
theorem pdecode_any (s : List UInt8) (w : World) (hl : s.length ≤ 1000) : Ret Tryz.prog 69 #[.string ⟨s.toArray⟩] w fun v w' => (∃ (ps : List Nat) (u : Value) (e : Nat), v = .tuple #[u, .int .i64 (e : Int)] ∧ (e = 0 → OwnR w' w.heap.size u ps ∧ ps.length ≤ s.length ∧ ∀ c ∈ ps, c < 1114112)) ∧ Ext w w' := by
  have hE0 := Ext.refl w
  refine Ret.body Tryz.func69 rfl Tryz.ntmps69 rfl ?_
  refine Cd.seq ?_
  refine Cd.region ?_
  refine Seg.step rfl rfl (Yd.assign rfl) ?_
  refine Seg.step rfl rfl (Yd.assign rfl) ?_
  refine Seg.nil ?_
  refine At.then_ ?_
  refine Cd.seq ?_
  refine Cd.seq ?_
  refine Cd.region ?_
  refine Seg.step rfl rfl (Yd.move rfl) ?_
  refine Seg.step rfl rfl (Yd.lenStr rfl rfl) ?_
  refine Seg.step rfl rfl (Yd.gtr rfl rfl) ?_
  refine Seg.nil ?_
  refine At.then_ ?_
  refine Cd.condk rfl (fun h15 => ?_) (fun h15 => ?_)
  · exfalso; omega
  refine Cd.skip ?_
  refine At.then_ ?_
  refine Cd.seq ?_
  refine Cd.region ?_
  refine Seg.step rfl rfl (Yd.move rfl) ?_
  (refine Seg.call rfl rfl (own_of rfl) rfl (pbasics_any s _ hl) ?_; rintro _ w22 ⟨⟨ps, u, e, r, rfl, hps⟩, hE22⟩)
  replace hE0 := Ext.trans hE0 hE22
  refine Seg.step rfl rfl (Yd.move rfl) ?_
  refine Seg.step rfl rfl (Yd.extract rfl rfl) ?_
  refine Seg.step rfl rfl (Yd.extract rfl rfl) ?_
  refine Seg.step rfl rfl (Yd.extract rfl rfl) ?_
  refine Seg.step rfl rfl (Yd.assign rfl) ?_
  refine Seg.step rfl rfl (Yd.assign rfl) ?_
  refine Seg.step rfl rfl (Yd.assign rfl) ?_
  refine Seg.nil ?_
  refine At.then_ ?_
  refine Cd.seq ?_
  refine Cd.seq ?_
  refine Cd.region ?_
  refine Seg.step rfl rfl (Yd.move rfl) ?_
  refine Seg.step rfl rfl (Yd.neq rfl rfl) ?_
  refine Seg.nil ?_
  refine At.then_ ?_
  refine Cd.condk rfl (fun h39 => ?_) (fun h39 => ?_)
  · refine Cd.seq ?_
    refine Cd.region ?_
    refine Seg.step rfl rfl (Yd.move rfl) ?_
    refine Seg.step rfl rfl (Yd.assign rfl) ?_
    refine Seg.step rfl rfl (Yd.assign rfl) ?_
    refine Seg.nil ?_
    refine At.then_ ?_
    refine Cd.ret ?_
    refine At.then_ret ?_
    exact At.ret Tryz.results69 (.tmp rfl (.tmp rfl .nil)) ⟨⟨[], _, _, rfl, fun h => (by exfalso; omega)⟩, hE0⟩
  refine Cd.skip ?_
  refine At.then_ ?_
  refine Cd.seq ?_
  refine Cd.region ?_
  refine Seg.step rfl rfl (Yd.assign rfl) ?_
  refine Seg.step rfl rfl (Yd.assign rfl) ?_
  refine Seg.step rfl rfl (Yd.assign rfl) ?_
  refine Seg.nil ?_
  refine At.then_ ?_
  refine Cd.seq ?_
  refine Cd.seq ?_
  refine Cd.region ?_
  refine Seg.step rfl rfl (Yd.assign rfl) ?_
  refine Seg.nil ?_
  refine At.then_ ?_
  refine Cd.block ?_
  obtain ⟨hO, hlen, hpt⟩ := hps (by omega)
  refine Cd.loop (σ := DeS) (fun t => [(0, .string ⟨t.s.toArray⟩), (4, t.v), (6, .int .i64 (t.n : Int)), (7, .int .i64 (t.at' : Int)), (8, .int .i64 (t.bias : Int)), (9, .bool t.first)])
    (fun t w' => (t.l.length + t.s.length ≤ s.length ∧ t.n ≤ 1114111 ∧ t.at' ≤ t.l.length ∧ t.bias ≤ 1000 ∧ ∀ c ∈ t.l, c < 1114112) ∧ OwnR w' w.heap.size t.v t.l ∧ Ext w w') (fun t => t.s.length) ⟨r, ps, u, 128, 0, 72, true⟩ (.cons rfl (.cons rfl (.cons rfl (.cons rfl (.cons rfl (.cons rfl (.nil _))))))) ⟨⟨hlen, by show 128 ≤ _; omega, Nat.zero_le _, by show 72 ≤ _; omega, hpt⟩, hO, by assumption⟩ ?_
  clear hE0 hO hps hpt hlen
  rintro ⟨q, l, v, n, at', bias, first⟩ w1 ⟨⟨h1, h2, h3, h4, h5⟩, hO, hE1⟩
  simp only at h1 h2 h3 h4 h5 hO ⊢
  have kO : Keep (OwnR w1 w.heap.size v l) := hO
  have kE1 : Keep (Ext w w1) := hE1
  have kp : Keep (∀ c ∈ l, c < 1114112) := h5
  have hEn := Ext.refl w1
  clear hO h5
  by_cases hqn : q = []
  · subst hqn
    refine Cd.seq ?_
    refine Cd.seq ?_
    refine Cd.region ?_
    refine Seg.step rfl rfl (Yd.move rfl) ?_
    refine Seg.step rfl rfl (Yd.neqS rfl rfl) ?_
    refine Seg.nil ?_
    refine At.then_ ?_
    refine Cd.condF rfl ?_
    refine Cd.exit ?_
    refine At.then_exit ?_
    refine At.then_exit ?_
    refine At.blk_same ?_
    refine At.then_ ?_
    refine Cd.seq ?_
    refine Cd.region ?_
    refine Seg.step rfl rfl (Yd.move rfl) ?_
    refine Seg.step rfl rfl (Yd.assign rfl) ?_
    refine Seg.step rfl rfl (Yd.assign rfl) ?_
    refine Seg.nil ?_
    refine At.then_ ?_
    refine Cd.ret ?_
    exact At.ret Tryz.results69 (.tmp rfl (.tmp rfl .nil)) ⟨⟨l, _, 0, rfl, fun _ => ⟨own_ext kO hEn, by omega, kp⟩⟩, Ext.trans kE1 hEn⟩
  · have ⟨ao, c, hv, _, _, _⟩ := own_sl kO
    subst hv
    obtain ⟨many, hmany⟩ : ∃ m, m = l.length + 1 := ⟨_, rfl⟩
    have vm : (l.length : Int) + 1 = (many : Int) := by omega
    refine Cd.seq ?_
    refine Cd.seq ?_
    refine Cd.region ?_
    refine Seg.step rfl rfl (Yd.move rfl) ?_
    refine Seg.step rfl rfl (Yd.neqS rfl rfl) ?_
    refine Seg.nil ?_
    refine At.then_ ?_
    refine Cd.condk rfl (fun h47 => ?_) (fun h47 => ?_)
    rotate_left 1
    · contradiction
    rotate_right 1
    refine Cd.skip ?_
    refine At.then_ ?_
    refine Cd.seq ?_
    refine Cd.block ?_
    refine Cd.seq ?_
    refine Cd.region ?_
    refine Seg.step rfl rfl (Yd.move rfl) ?_
    refine Seg.step rfl rfl (Yd.move rfl) ?_
    (refine Seg.call rfl rfl (own_of rfl) rfl (pnumber_any q (bias : Int) _ ⟨by omega, by omega⟩ (by omega)) ?_; rintro _ w57 ⟨⟨d, e, r, rfl, hd⟩, hE57⟩)
    replace hE1 := Ext.trans hE1 hE57
    replace hEn := Ext.trans hEn hE57
    refine Seg.step rfl rfl (Yd.move rfl) ?_
    refine Seg.step rfl rfl (Yd.extract rfl rfl) ?_
    refine Seg.step rfl rfl (Yd.extract rfl rfl) ?_
    refine Seg.step rfl rfl (Yd.extract rfl rfl) ?_
    refine Seg.step rfl rfl (Yd.assign rfl) ?_
    refine Seg.step rfl rfl (Yd.assign rfl) ?_
    refine Seg.step rfl rfl (Yd.assign rfl) ?_
    refine Seg.nil ?_
    refine At.then_ ?_
    refine Cd.seq ?_
    refine Cd.seq ?_
    refine Cd.region ?_
    refine Seg.step rfl rfl (Yd.move rfl) ?_
    refine Seg.step rfl rfl (Yd.neq rfl rfl) ?_
    refine Seg.nil ?_
    refine At.then_ ?_
    refine Cd.condk rfl (fun h74 => ?_) (fun h74 => ?_)
    · refine Cd.seq ?_
      refine Cd.region ?_
      refine Seg.step rfl rfl (Yd.move rfl) ?_
      refine Seg.step rfl rfl (Yd.assign rfl) ?_
      refine Seg.step rfl rfl (Yd.assign rfl) ?_
      refine Seg.nil ?_
      refine At.then_ ?_
      refine Cd.ret ?_
      refine At.then_ret ?_
      refine At.blk_ret ?_
      refine At.then_ret ?_
      refine At.then_ret ?_
      refine At.blk_ret ?_
      refine At.then_ret ?_
      first | exact At.ret Tryz.results69 (.tmp rfl (.tmp rfl .nil)) ⟨⟨[], _, _, rfl, fun h => (by exfalso; omega)⟩, Ext.trans kE1 hEn⟩ | exact At.ret Tryz.results69 (.tmp rfl (.tmp rfl .nil)) ⟨⟨[], _, 6, rfl, fun h => (by cases h)⟩, Ext.trans kE1 hEn⟩
    refine Cd.skip ?_
    refine At.then_ ?_
    refine Cd.seq ?_
    refine Cd.region ?_
    refine Seg.step rfl rfl (Yd.move rfl) ?_
    refine Seg.step rfl rfl (Yd.assign rfl) ?_
    refine Seg.nil ?_
    refine At.then_ ?_
    refine Cd.seq ?_
    refine Cd.region ?_
    refine Seg.step rfl rfl (Yd.move rfl) ?_
    refine Seg.step rfl rfl (Yd.move rfl) ?_
    refine Seg.step rfl rfl (Yd.addI rfl rfl (by omega)) ?_
    refine Seg.step rfl rfl (Yd.assign rfl) ?_
    refine Seg.nil ?_
    refine At.then_ ?_
    refine Cd.seq ?_
    refine Cd.seq ?_
    refine Cd.region ?_
    refine Seg.step rfl rfl (Yd.move rfl) ?_
    refine Seg.step rfl rfl (Yd.gtr rfl rfl) ?_
    refine Seg.nil ?_
    refine At.then_ ?_
    refine Cd.condk rfl (fun h115 => ?_) (fun h115 => ?_)
    · refine Cd.seq ?_
      refine Cd.region ?_
      refine Seg.step rfl rfl (Yd.assign rfl) ?_
      refine Seg.step rfl rfl (Yd.assign rfl) ?_
      refine Seg.nil ?_
      refine At.then_ ?_
      refine Cd.ret ?_
      refine At.then_ret ?_
      refine At.blk_ret ?_
      refine At.then_ret ?_
      refine At.then_ret ?_
      refine At.blk_ret ?_
      refine At.then_ret ?_
      first | exact At.ret Tryz.results69 (.tmp rfl (.tmp rfl .nil)) ⟨⟨[], _, _, rfl, fun h => (by exfalso; omega)⟩, Ext.trans kE1 hEn⟩ | exact At.ret Tryz.results69 (.tmp rfl (.tmp rfl .nil)) ⟨⟨[], _, 6, rfl, fun h => (by cases h)⟩, Ext.trans kE1 hEn⟩
    refine Cd.skip ?_
    refine At.then_ ?_
    refine Cd.seq ?_
    refine Cd.region ?_
    refine Seg.step rfl rfl (Yd.move rfl) ?_
    refine Seg.step rfl rfl (Yd.lenS rfl rfl) ?_
    first | (refine Seg.step rfl rfl (Yd.addI rfl rfl (by omega)) ?_; rw [vm])
    refine Seg.step rfl rfl (Yd.assign rfl) ?_
    refine Seg.nil ?_
    refine At.then_ ?_
    refine Cd.seq ?_
    obtain ⟨hd1, hd2⟩ := hd (by omega)
    obtain ⟨a2, ha2⟩ : ∃ a, a = at' + d := ⟨_, rfl⟩
    have va : (at' : Int) + (d : Int) = (a2 : Int) := by omega
    rw [va] at *
    have hqo : a2 / many ≤ a2 := Nat.div_le_self _ _
    have hre : a2 % many < many := Nat.mod_lt _ (by omega)
    have vq : (a2 : Int) / (many : Int) = ((a2 / many : Nat) : Int) := rfl
    have vr : (a2 : Int) % (many : Int) = ((a2 % many : Nat) : Int) := rfl
    generalize a2 / many = qo at hqo vq
    generalize a2 % many = re at hre vr
    have vn : (n : Int) + (qo : Int) = ((n + qo : Nat) : Int) := rfl
    refine Cd.region ?_
    refine Seg.step rfl rfl (Yd.move rfl) ?_
    refine Seg.step rfl rfl (Yd.move rfl) ?_
    refine Seg.step rfl rfl (Yd.move rfl) ?_
    (refine Seg.call rfl rfl (own_of rfl) rfl (pbehind_any d many first _ (by omega) (by omega) (by omega)) ?_; rintro _ w120 ⟨rfl, hE120⟩)
    replace hE57 := Ext.trans hE57 hE120
    replace hE1 := Ext.trans hE1 hE120
    replace hEn := Ext.trans hEn hE120
    refine Seg.step rfl rfl (Yd.assign rfl) ?_
    refine Seg.nil ?_
    refine At.then_ ?_
    refine Cd.seq ?_
    refine Cd.region ?_
    refine Seg.step rfl rfl (Yd.move rfl) ?_
    refine Seg.step rfl rfl (Yd.move rfl) ?_
    refine Seg.step rfl rfl (Yd.move rfl) ?_
    first | (refine Seg.step rfl rfl (Yd.quoP rfl rfl (by omega) (by omega) (by omega)) ?_; rw [vq]) | (refine Seg.step rfl rfl (Yd.remN rfl rfl (by omega) (by omega)) ?_; rw [vr]) | (refine Seg.step rfl rfl (Yd.addI rfl rfl (by omega)) ?_; rw [vn])
    first | (refine Seg.step rfl rfl (Yd.quoP rfl rfl (by omega) (by omega) (by omega)) ?_; rw [vq]) | (refine Seg.step rfl rfl (Yd.remN rfl rfl (by omega) (by omega)) ?_; rw [vr]) | (refine Seg.step rfl rfl (Yd.addI rfl rfl (by omega)) ?_; rw [vn])
    refine Seg.step rfl rfl (Yd.assign rfl) ?_
    refine Seg.nil ?_
    refine At.then_ ?_
    refine Cd.seq ?_
    refine Cd.region ?_
    refine Seg.step rfl rfl (Yd.move rfl) ?_
    refine Seg.step rfl rfl (Yd.move rfl) ?_
    first | (refine Seg.step rfl rfl (Yd.quoP rfl rfl (by omega) (by omega) (by omega)) ?_; rw [vq]) | (refine Seg.step rfl rfl (Yd.remN rfl rfl (by omega) (by omega)) ?_; rw [vr]) | (refine Seg.step rfl rfl (Yd.addI rfl rfl (by omega)) ?_; rw [vn])
    refine Seg.step rfl rfl (Yd.assign rfl) ?_
    refine Seg.nil ?_
    refine At.then_ ?_
    refine Cd.seq ?_
    refine Cd.seq ?_
    refine Cd.region ?_
    refine Seg.step rfl rfl (Yd.move rfl) ?_
    refine Seg.step rfl rfl (Yd.gtr rfl rfl) ?_
    refine Seg.nil ?_
    refine At.then_ ?_
    refine Cd.condk rfl (fun h149 => ?_) (fun h149 => ?_)
    · refine Cd.seq ?_
      refine Cd.region ?_
      refine Seg.step rfl rfl (Yd.assign rfl) ?_
      refine Seg.step rfl rfl (Yd.assign rfl) ?_
      refine Seg.nil ?_
      refine At.then_ ?_
      refine Cd.ret ?_
      refine At.then_ret ?_
      refine At.blk_ret ?_
      refine At.then_ret ?_
      refine At.then_ret ?_
      refine At.blk_ret ?_
      refine At.then_ret ?_
      exact At.ret Tryz.results69 (.tmp rfl (.tmp rfl .nil)) ⟨⟨[], _, 4, rfl, fun h => (by cases h)⟩, Ext.trans kE1 hEn⟩
    refine Cd.skip ?_
    refine At.then_ ?_
    refine Cd.seq ?_
    refine Cd.seq ?_
    refine Cd.region ?_
    refine Seg.step rfl rfl (Yd.move rfl) ?_
    refine Seg.step rfl rfl (Yd.gtr rfl rfl) ?_
    refine Seg.nil ?_
    refine At.then_ ?_
    refine Cd.condk rfl (fun h175 => ?_) (fun h175 => ?_)
    · exfalso; omega
    refine Cd.skip ?_
    refine At.then_ ?_
    refine Cd.seq ?_
    have kb : Keep (behF d many first ≤ 1000) := beh_bd _ _ _
    clear hd1 hd2 va
    refine Cd.region ?_
    refine Seg.step rfl rfl (Yd.move rfl) ?_
    refine Seg.buildSliceV rfl rfl rfl rfl rfl rfl rfl rfl rfl rfl (fun w178 b178 hE178 hB178 hb178 hO178 => ?_)
    have hlt178_0 := Nat.le_trans hE120.size hb178
    have hlt178_1 := Nat.le_trans hE57.size hb178
    have hlt178_2 := Nat.le_trans hE1.size hb178
    have hlt178_3 := Nat.le_trans hEn.size hb178
    replace hE120 := Ext.trans hE120 hE178
    replace hE57 := Ext.trans hE57 hE178
    replace hE1 := Ext.trans hE1 hE178
    replace hEn := Ext.trans hEn hE178
    (refine Seg.appR (m := [0]) rfl rfl rfl rfl rfl (own_ext kO hEn) (own_sl (by assumption)) (Below.size (Ext.trans kE1 hEn)) (by show _ + 1 ≤ _; omega) (fun v179 w179 hO179 _ hX179 hS179 _ => ?_); have hE3 := hX179 w (Ext.trans kE1 hEn) (Nat.le_refl _); obtain ⟨g, cap, cur, rfl, hg1, _, hg3, _, _, _⟩ := own_row hO179 (by rw [List.length_append]; exact Nat.le_add_left _ _); have hs9 := Nat.le_trans (Below.size (Ext.trans kE1 hEn)) hS179)
    refine Seg.step rfl rfl (Yd.assign rfl) ?_
    refine Seg.nil ?_
    refine At.then_ ?_
    refine Cd.seq ?_
    have hm : (l ++ [0]).length = l.length + 1 := by rw [List.length_append]; rfl
    unfold OwnR at hO179
    rw [hm] at hO179 hg3 ⊢
    refine Cd.anyE (by kernel_rfl) (fun w2 hE2 => ?_)
    have hE4 := Ext.trans hE3 hE2
    have hO2 := own_ext hO179 hE2
    refine SegA.pure 0 rfl (by kernel_rfl) (by kernel_rfl) (by kernel_rfl) rfl rfl (fun _ => Yd.move rfl) ?_
    refine SegA.pure 1 rfl (by kernel_rfl) (by kernel_rfl) (by kernel_rfl) rfl rfl (fun _ => Yd.move rfl) ?_
    refine SegA.pure 2 rfl (by kernel_rfl) (by kernel_rfl) (by kernel_rfl) rfl rfl (fun _ => Yd.addI rfl rfl (by omega)) ?_
    refine SegA.pure 4 rfl (by kernel_rfl) (by kernel_rfl) (by kernel_rfl) rfl rfl (fun _ => Yd.move rfl) ?_
    refine SegA.pure 5 rfl (by kernel_rfl) (by kernel_rfl) (by kernel_rfl) rfl rfl (fun _ => Yd.move rfl) ?_
    refine SegA.pure 3 rfl (by kernel_rfl) (by kernel_rfl) (by kernel_rfl) rfl rfl (fun _ => Yd.slSlL (lo := re + 1) rfl rfl rfl (by unfold NatOf; omega) (by omega)) ?_
    refine SegA.pure 6 rfl (by kernel_rfl) (by kernel_rfl) (by kernel_rfl) rfl rfl (fun _ => Yd.slSlL (lo := re) rfl rfl rfl (by unfold NatOf; omega) (by omega)) ?_
    obtain ⟨w3, hr3, hW3, hO3⟩ := copy_own (P := Tryz.prog) (T := 3) (U := 51) (lo := re + 1) (lo' := re) rfl rfl rfl hO2 (by omega) (by omega) (r32_one _)
    refine SegA.one 7 rfl (by kernel_rfl) rfl rfl (Yd.of_run rfl rfl hr3) ?_
    refine SegA.done (by kernel_rfl) (At.then_ ?_)
    have hE5 := Ext.wr' hE4 hW3 hg1
    clear hE3 hE4 hr3 hW3
    obtain ⟨_, hd2⟩ := hd (by omega)
    obtain ⟨l1, hl1⟩ : ∃ l1, l1 = (l ++ [0]).take (re + 1) ++ ((l ++ [0]).drop re).take (l.length + 1 - (re + 1)) := ⟨_, rfl⟩
    have hX : (r32 (l ++ [0])).take (re + 1) ++ ((r32 (l ++ [0])).drop re).take (l.length + 1 - (re + 1)) = r32 l1 := by
      rw [hl1]; simp [r32, List.map_take, List.map_drop]
    have hl1l : l1.length = l.length + 1 := by
      rw [hl1, List.length_append, List.length_take, List.length_take, List.length_drop, hm]; omega
    have hl1p : ∀ c ∈ l1, c < 1114112 := by
      intro c hc
      rw [hl1] at hc
      have hin : c ∈ l ++ [0] := (List.mem_append.1 hc).elim List.mem_of_mem_take (fun h => List.mem_of_mem_drop (List.mem_of_mem_take h))
      exact (List.mem_append.1 hin).elim (kp c) (fun h => by rw [List.mem_singleton] at h; rw [h]; omega)
    have hset : (r32 l1).set re (.int .i32 ((n + qo : Nat) : Int)) = r32 (l1.set re (n + qo)) := by simp [r32, List.map_set]
    have hl2l : (l1.set re (n + qo)).length = l.length + 1 := by rw [List.length_set, hl1l]
    have hl2p : ∀ c ∈ l1.set re (n + qo), c < 1114112 := fun c hc => (List.mem_or_eq_of_mem_set hc).elim (hl1p c) (fun h => by omega)
    have hcv : IntKind.i32.wrap ((n + qo : Nat) : Int) = ((n + qo : Nat) : Int) := IntWalk.i32_in _ ⟨by omega, by omega⟩
    have kl2 : Keep (∀ c ∈ l1.set re (n + qo), c < 1114112) := hl2p
    rw [hX] at hO3
    have kO3 : Keep (w3.ownsRow w.heap.size 21 1 (.slice (some ⟨g, 0, none⟩) (l.length + 1) cap) (l.length + 1) (r32 l1)) := hO3
    have kset : Keep ((r32 l1).set re (.int .i32 ((n + qo : Nat) : Int)) = r32 (l1.set re (n + qo))) := hset
    clear hl1 hl1p hl2p hX hO3 hset
    have kE5 : Keep (Ext w w3) := hE5
    refine Cd.seq ?_
    refine Cd.region ?_
    refine Seg.step rfl rfl (Yd.move rfl) ?_
    refine Seg.step rfl rfl (Yd.move rfl) ?_
    refine Seg.step rfl rfl (Yd.move rfl) ?_
    (refine Seg.step rfl rfl (Yd.convN rfl rfl rfl hcv) ?_)
    refine Seg.step rfl rfl (Yd.indexAddr1 rfl rfl rfl (NatOf.cast _) (by omega)) ?_
    (refine Seg.storeOwn (k := re) rfl rfl rfl rfl rfl kO3 (by omega) (fun w187 hW187 hO187 => ?_); rw [kset] at hO187; have hE7 := Ext.wr' kE5 hW187 hg1; have hO8 : OwnR w187 w.heap.size (.slice (some ⟨g, 0, none⟩) (l.length + 1) cap) (l1.set re (n + qo)) := (by unfold OwnR; rw [hl2l]; exact hO187))
    refine Seg.nil ?_
    refine At.then_ ?_
    refine Cd.region ?_
    refine Seg.step rfl rfl (Yd.move rfl) ?_
    refine Seg.step rfl rfl (Yd.addI rfl rfl (by omega)) ?_
    refine Seg.step rfl rfl (Yd.assign rfl) ?_
    refine Seg.nil ?_
    refine At.blk ?_
    refine At.then_ ?_
    refine Cd.region ?_
    refine Seg.step rfl rfl (Yd.assign rfl) ?_
    refine Seg.nil ?_
    exact At.round (⟨r, l1.set re (n + qo), _, n + qo, re + 1, behF d many first, false⟩ : DeS) (.cons rfl (.cons rfl (.cons rfl (.cons rfl (.cons rfl (.cons rfl (.nil _))))))) ⟨⟨by show (l1.set re (n + qo)).length + r.length ≤ _; omega, by show n + qo ≤ _; omega, by show re + 1 ≤ (l1.set re (n + qo)).length; omega, kb, kl2⟩, hO8, hE7⟩ hd2
