/- Sums of which it is quickly told which number they reach: what is added; the walk. -/
import Derived.Test.YtccppgpedlfjdaaLot
import Derived.Test.YtccppgpedlfjdaaWkn
import Derived.Test.YtccppgpedlfjdaaWkh
namespace Go.Proofs.Ytccppgpedlfjdaa
open Go Go.RowKit
def lb (j : Nat) : Nat := Nat.gcd j 64
abbrev cov (j i : Nat) : Prop := j - lb j ≤ i ∧ i < j
theorem chkA : ((List.range 61).all fun p => Nat.beq p 0 || ((List.range p).all fun i => !(decide (cov p i)) || (((Nat.ble 61 (p + lb p)) || decide (cov (p + lb p) i)) && (List.range (lb p)).all (fun t => Nat.beq t 0 || !(decide (cov (p + t) i)))))) = true := by kernel_rfl
theorem chkB : ((List.range 61).all fun p => Nat.beq p 0 || decide (bitsAnd .i64 (p : Int) (-(p : Int)) = (lb p : Int))) = true := by kernel_rfl
theorem cov_next {p i : Nat} (h0 : 0 < p) (h : p < 61) (hc : cov p i) : (p + lb p < 61 → cov (p + lb p) i) ∧ ∀ j, p < j → j < p + lb p → ¬ cov j i := by
  have h1 := List.all_eq_true.1 chkA p (List.mem_range.2 h)
  simp only [Bool.or_eq_true, Nat.beq_eq, List.all_eq_true, List.mem_range, Bool.and_eq_true, Bool.not_eq_true', decide_eq_true_eq, decide_eq_false_iff_not, Nat.ble_eq] at h1
  rcases h1 with h1 | h1
  · omega
  · rcases h1 i hc.2 with h2 | ⟨h2, h3⟩
    · exact absurd hc h2
    · refine ⟨fun h4 => h2.resolve_left (by omega), fun j hj hj' => ?_⟩
      rcases h3 (j - p) (by omega) with h4 | h4
      · omega
      · rwa [show p + (j - p) = j by omega] at h4
theorem lb_pos {p : Nat} : 0 < lb p := Nat.gcd_pos_of_pos_right _ (by decide)
theorem cov_self (i : Nat) (h : i + 1 < 61) : cov (i + 1) i := ⟨by have := lb_pos (p := i + 1); omega, Nat.lt_succ_self i⟩
theorem lb_and {p : Nat} (h0 : 0 < p) (h : p < 61) : bitsAnd .i64 (p : Int) (-(p : Int)) = (lb p : Int) := by
  have h1 := List.all_eq_true.1 chkB p (List.mem_range.2 h)
  simp only [Bool.or_eq_true, Nat.beq_eq, decide_eq_true_eq] at h1
  exact h1.resolve_left (by omega)
theorem Yd.negI {P : Program} {n : Nat} {fr : Fr} {w : World} {T U : TypeId} {x : Operand} {i : Int} (hx : Fr.ev fr x = some (.int .i64 i)) (h : -9223372036854775808 ≤ -i ∧ -i ≤ 9223372036854775807) : Yd P n (.unOp .neg U x) T fr w (.int .i64 (-i)) w :=
  .val fun a ha _ _ _ _ => by
    have h2 : IntKind.i64.wrap (0 - i) = -i := by rw [Int.zero_sub]; exact IntWalk.i64_in _ h
    have h3 := IntWalk.i64_in _ h
    simp [execOp, ha.ev hx, Op.unary, Op.intArith, h3]
theorem ints_set {G : List Int} {p : Nat} {x : Int} : (ints G).set p (.int .i64 x) = ints (G.set p x) := by unfold ints; rw [List.map_set]
theorem add_any (F : List Int) (bt cap i : Nat) (x : Int) (w : World) (hi : i + 1 < F.length) (hF : F.length ≤ 61) (hB : Bx w bt (ints F)) (hb : ∀ j, 0 < j → j < F.length → -1099511627776 ≤ F.getD j 0 ∧ F.getD j 0 ≤ 1099511627776) (hx : -1099511627776 ≤ x ∧ x ≤ 1099511627776) :
    Ret Try.prog 33 #[.slice (some ⟨bt, 0, none⟩) F.length cap, .int .i64 (i : Int), .int .i64 x] w fun _ w' => (∃ F' : List Int, Bx w' bt (ints F') ∧ F'.length = F.length ∧ ∀ j, j < F.length → F'.getD j 0 = F.getD j 0 + (if cov j i then x else 0)) ∧ Wr bt w w' := by
  have hWr : Wr bt w w := (Ext.refl w).wr bt
  refine Ret.body Try.func33 rfl Try.ntmps33 rfl ?_
  refine Cd.seq ?_
  refine Cd.region ?_
  refine Seg.step rfl rfl (Yd.move rfl) ?_
  refine Seg.step rfl rfl (Yd.addI rfl rfl (by omega)) ?_
  refine Seg.step rfl rfl (Yd.assign rfl) ?_
  refine Seg.nil ?_
  refine At.then_ ?_
  refine Cd.block ?_
  refine Cd.loop (σ := List Int × Nat) (fun s => [(0, .slice (some ⟨bt, 0, none⟩) F.length cap), (1, .int .i64 (s.2 : Int)), (2, .int .i64 x)])
    (fun s w' => (s.1.length = F.length ∧ 0 < s.2 ∧ (s.2 < F.length → cov s.2 i) ∧ ∀ j, j < F.length → s.1.getD j 0 = F.getD j 0 + (if cov j i ∧ j < s.2 then x else 0)) ∧ Bx w' bt (ints s.1) ∧ Wr bt w w') (fun s => F.length - s.2) (F, i + 1) (.cons rfl (.cons rfl (.cons rfl (.nil _))))
    ⟨⟨rfl, Nat.succ_pos _, fun _ => cov_self i (by omega), fun j _ => by show F.getD j 0 = F.getD j 0 + _; rw [if_neg (by rintro ⟨h1, h2⟩; exact absurd h1.2 (by omega)), Int.add_zero]⟩, hB, hWr⟩ ?_
  clear hB hWr
  rintro ⟨G, p⟩ w0 ⟨⟨hG, hp, hc, hv⟩, hB, hWr⟩
  simp only at hG hp hc hv hB ⊢
  by_cases hlt : p < F.length
  · obtain ⟨hn, hgap⟩ := cov_next hp (by omega) (hc hlt)
    have hand := lb_and hp (by omega : p < 61)
    have hget := ints_get (xs := G) (i := p) (by omega)
    have hvp := hv p hlt
    rw [if_neg (fun h => Nat.lt_irrefl _ h.2), Int.add_zero] at hvp
    have hbp := hb p hp hlt
    have hbd : -9223372036854775808 ≤ G.getD p 0 + x ∧ G.getD p 0 + x ≤ 9223372036854775807 := by rw [hvp]; omega
    have hrow := hB.row _ _ hget
    have hpl : p < (ints G).length := by simp [ints]; omega
    have hnew : (G.set p (G.getD p 0 + x)).length = F.length ∧ 0 < p + lb p ∧ (p + lb p < F.length → cov (p + lb p) i) ∧ ∀ j, j < F.length → (G.set p (G.getD p 0 + x)).getD j 0 = F.getD j 0 + (if cov j i ∧ j < p + lb p then x else 0) := by
      have hl0 := lb_pos (p := p)
      refine ⟨by rw [List.length_set]; exact hG, by omega, fun h => hn (by omega), fun j hj => ?_⟩
      by_cases hjp : j = p
      · subst hjp
        rw [if_pos ⟨hc hlt, by omega⟩, ← hvp, List.getD_eq_getElem?_getD, List.getElem?_set_self (by omega)]
        rfl
      · have h1 : (G.set p (G.getD p 0 + x)).getD j 0 = G.getD j 0 := by
          rw [List.getD_eq_getElem?_getD, List.getElem?_set_ne (fun h => hjp h.symm), ← List.getD_eq_getElem?_getD]
        rw [h1, hv j hj]
        by_cases hc1 : cov j i ∧ j < p
        · rw [if_pos hc1, if_pos ⟨hc1.1, by omega⟩]
        · rw [if_neg hc1, if_neg (fun h => hc1 ⟨h.1, by
            rcases Nat.lt_or_ge j p with h2 | h2
            · exact h2
            · exact absurd h.1 (hgap j (by omega) h.2)⟩)]
    have hms : F.length - (p + lb p) < F.length - p := by have := lb_pos (p := p); omega
    have hlb : lb p ≤ 64 := Nat.gcd_le_right _ (by decide)
    refine Cd.seq ?_
    refine Cd.seq ?_
    refine Cd.region ?_
    refine Seg.step rfl rfl (Yd.move rfl) ?_
    refine Seg.step rfl rfl (Yd.move rfl) ?_
    refine Seg.step rfl rfl (Yd.lenS rfl rfl) ?_
    (refine Seg.step rfl rfl (Yd.lss rfl rfl) ?_)
    refine Seg.nil ?_
    refine At.then_ ?_
    refine Cd.condk rfl (fun h10 => ?_) (fun h10 => ?_)
    · refine Cd.skip ?_
      refine At.then_ ?_
      refine Cd.seq ?_
      refine Cd.block ?_
      refine Cd.region ?_
      refine Seg.step rfl rfl (Yd.move rfl) ?_
      refine Seg.step rfl rfl (Yd.move rfl) ?_
      refine Seg.step rfl rfl (Yd.indexAddr1 rfl rfl rfl (NatOf.cast _) (by omega)) ?_
      refine Seg.step rfl rfl (Yd.load1 rfl rfl hrow) ?_
      refine Seg.step rfl rfl (Yd.move rfl) ?_
      (refine Seg.step rfl rfl (Yd.addI rfl rfl hbd) ?_)
      refine Seg.step rfl rfl (Yd.indexAddr1 rfl rfl rfl (NatOf.cast _) (by omega)) ?_
      (refine Seg.store1 (k := p) rfl rfl rfl rfl rfl hB hpl (fun w24 hW24 hB24 => ?_); rw [show (ints G).set p (.int .i64 (G.getD p 0 + x)) = ints (G.set p (G.getD p 0 + x)) from ints_set] at hB24; have hWr := hWr.trans hW24; have hBn := hB24)
      refine Seg.nil ?_
      refine At.blk ?_
      refine At.then_ ?_
      refine Cd.region ?_
      refine Seg.step rfl rfl (Yd.move rfl) ?_
      refine Seg.step rfl rfl (Yd.move rfl) ?_
      refine Seg.step rfl rfl (Yd.move rfl) ?_
      (refine Seg.step rfl rfl (Yd.negI rfl (by omega)) ?_)
      (refine Seg.step rfl rfl (Yd.and rfl rfl) ?_; rw [hand])
      refine Seg.step rfl rfl (Yd.addI rfl rfl (by omega)) ?_
      refine Seg.step rfl rfl (Yd.assign rfl) ?_
      refine Seg.nil ?_
      exact At.round (G.set p (G.getD p 0 + x), p + lb p) (.cons rfl (.cons rfl (.cons rfl (.nil _)))) ⟨hnew, hBn, hWr⟩ hms
    · exfalso; omega
  · refine Cd.seq ?_
    refine Cd.seq ?_
    refine Cd.region ?_
    refine Seg.step rfl rfl (Yd.move rfl) ?_
    refine Seg.step rfl rfl (Yd.move rfl) ?_
    refine Seg.step rfl rfl (Yd.lenS rfl rfl) ?_
    refine Seg.step rfl rfl (Yd.lss rfl rfl) ?_
    refine Seg.nil ?_
    refine At.then_ ?_
    refine Cd.condk rfl (fun h10 => ?_) (fun h10 => ?_)
    · exfalso; omega
    · refine Cd.exit ?_
      refine At.then_exit ?_
      refine At.then_exit ?_
      refine At.blk_same ?_
      exact At.fin Try.results33 .nil ⟨⟨G, hB, hG, fun j hj => by rw [hv j hj]; congr 1; simp only [show j < p by omega, and_true]⟩, hWr⟩
end Go.Proofs.Ytccppgpedlfjdaa
