/- Sums of which it is quickly told which number they reach: what is found; the walk. -/
import Derived.Test.YtccppgpedlfjdaaFen
namespace Go.Proofs.Ytccppgpedlfjdaa
open Go Go.RowKit
def len8 (x : Nat) : Nat := if x = 0 then 0 else Nat.log2 x + 1
theorem Yd.table {P : Program} [Tys P] {n : Nat} {fr : Fr} {w : World} {x y : Operand} {U T : TypeId} {l : List UInt8} {q : IntKind} {i : Int} {k : Nat} {f : Nat → Nat} (hU : strOf P U = some true) (hx : Fr.ev fr x = some (.string ⟨l.toArray⟩)) (hy : Fr.ev fr y = some (.int q i)) (hk : NatOf i k) (hk2 : k < 256)
    (h : (List.range 256).all (fun k => Nat.blt k l.length && Nat.beq (l.getD k 0).toNat (f k)) = true) : Yd P n (.index U x y) T fr w (.int .u8 (f k : Nat)) w := by
  have := List.all_eq_true.1 h k (List.mem_range.2 hk2)
  simp only [Bool.and_eq_true, Nat.blt_eq, Nat.beq_eq] at this
  have h2 := Yd.indexStr (P := P) (n := n) (w := w) (T := T) hU hx hy hk this.1
  rwa [this.2] at h2
theorem len8_le {x : Nat} (hx : x ≤ 255) : len8 x ≤ 8 := by
  unfold len8
  split
  · omega
  · rename_i h
    have := (Nat.log2_lt h).2 (show x < 2 ^ 8 by omega)
    omega
theorem len64_any (x : Nat) (w : World) (hx : x ≤ 255) : Ret Try.prog 41 #[.int .u64 (x : Int)] w fun v w' => v = .int .i64 (len8 x : Nat) ∧ Ext w w' := by
  have hE0 := Ext.refl w
  have hl := len8_le hx
  have hw : IntKind.i64.wrap (len8 x : Nat) = (len8 x : Nat) := IntWalk.i64_in _ ⟨by omega, by omega⟩
  have h8 : IntKind.u8.wrap (x : Int) = x := IntWalk.u8_in _ ⟨by omega, by omega⟩
  have hw2 : (0 : Int) + (len8 x : Nat) = (len8 x : Nat) := Int.zero_add _
  refine Ret.body Try.func41 rfl Try.ntmps41 rfl ?_
  refine Cd.seq ?_
  refine Cd.region ?_
  refine Seg.step rfl rfl (Yd.assign rfl) ?_
  refine Seg.nil ?_
  refine At.then_ ?_
  refine Cd.seq ?_
  refine Cd.seq ?_
  refine Cd.region ?_
  refine Seg.step rfl rfl (Yd.move rfl) ?_
  refine Seg.step rfl rfl (Yd.geq rfl rfl) ?_
  refine Seg.nil ?_
  refine At.then_ ?_
  refine Cd.condk rfl (fun h21 => ?_) (fun h21 => ?_)
  · exfalso; omega
  refine Cd.skip ?_
  refine At.then_ ?_
  refine Cd.seq ?_
  refine Cd.seq ?_
  refine Cd.region ?_
  refine Seg.step rfl rfl (Yd.move rfl) ?_
  refine Seg.step rfl rfl (Yd.geq rfl rfl) ?_
  refine Seg.nil ?_
  refine At.then_ ?_
  refine Cd.condk rfl (fun h32 => ?_) (fun h32 => ?_)
  · exfalso; omega
  refine Cd.skip ?_
  refine At.then_ ?_
  refine Cd.seq ?_
  refine Cd.seq ?_
  refine Cd.region ?_
  refine Seg.step rfl rfl (Yd.move rfl) ?_
  refine Seg.step rfl rfl (Yd.geq rfl rfl) ?_
  refine Seg.nil ?_
  refine At.then_ ?_
  refine Cd.condk rfl (fun h43 => ?_) (fun h43 => ?_)
  · exfalso; omega
  refine Cd.skip ?_
  refine At.then_ ?_
  refine Cd.seq ?_
  refine Cd.region ?_
  refine Seg.step rfl rfl (Yd.move rfl) ?_
  refine Seg.step rfl rfl (Yd.move rfl) ?_
  (refine Seg.step rfl rfl (Yd.convN rfl rfl rfl h8) ?_)
  refine Seg.step rfl rfl (Yd.table (f := len8) rfl rfl rfl (NatOf.cast x) (by omega) (by kernel_rfl)) ?_
  generalize len8 x = l at *
  (refine Seg.step rfl rfl (Yd.convN rfl rfl rfl hw) ?_)
  refine Seg.step rfl rfl (Yd.addI rfl rfl (by omega)) ?_
  refine Seg.step rfl rfl (Yd.assign rfl) ?_
  refine Seg.nil ?_
  refine At.then_ ?_
  refine Cd.ret ?_
  exact At.ret Try.results41 (.tmp rfl .nil) ⟨congrArg (Value.int .i64) hw2, by assumption⟩
theorem len_any (x : Nat) (w : World) (hx : x ≤ 255) : Ret Try.prog 38 #[.int .u64 (x : Int)] w fun v w' => v = .int .i64 (len8 x : Nat) ∧ Ext w w' := by
  have hE0 := Ext.refl w
  refine Ret.body Try.func38 rfl Try.ntmps38 rfl ?_
  refine Cd.seq ?_
  refine Cd.region ?_
  refine Seg.step rfl rfl (Yd.assign rfl) ?_
  refine Seg.nil ?_
  refine At.then_ ?_
  refine Cd.seq ?_
  refine Cd.condF rfl ?_
  refine Cd.skip ?_
  refine At.then_ ?_
  refine Cd.seq ?_
  refine Cd.region ?_
  refine Seg.step rfl rfl (Yd.move rfl) ?_
  (refine Seg.call rfl rfl (own_of rfl) rfl (len64_any x _ hx) ?_; rintro _ w13 ⟨rfl, hE13⟩)
  replace hE0 := Ext.trans hE0 hE13
  refine Seg.step rfl rfl (Yd.assign rfl) ?_
  refine Seg.nil ?_
  refine At.then_ ?_
  refine Cd.ret ?_
  exact At.ret Try.results38 (.tmp rfl .nil) ⟨rfl, by assumption⟩
theorem Yd.shlN {P : Program} {n : Nat} {fr : Fr} {w : World} {T U U' : TypeId} {x y : Operand} {k : Nat} {v : Int} (hk : k ≤ 8) (hx : Fr.ev fr x = some (.int .i64 v)) (hy : Fr.ev fr y = some (.int .i64 (k : Int))) (hv : IntKind.i64.wrap (v * 2 ^ k) = v * 2 ^ k) : Yd P n (.binOp .shl U x y U') T fr w (.int .i64 (v * 2 ^ k)) w :=
  .bin hx hy eqGuard_int (by
    simp [binOp, Op.shift, hv]
    )
theorem Yd.shr1I {P : Program} {n : Nat} {fr : Fr} {w : World} {T U U' : TypeId} {x y : Operand} {i : Int} {k' : IntKind} (hx : Fr.ev fr x = some (.int .i64 i)) (hy : Fr.ev fr y = some (.int k' 1)) : Yd P n (.binOp .shr U x y U') T fr w (.int .i64 (i / 2)) w :=
  .bin hx hy eqGuard_int (by simp [binOp, Op.shift, IntKind.bits, Int.fdiv_eq_ediv_of_nonneg])
def pre (A : List Int) (k : Nat) : Int := (A.take k).sum
/-- F tells the sums of A. -/
def FT (A F : List Int) : Prop := F.length = A.length + 1 ∧ ∀ j, 0 < j → j < F.length → F.getD j 0 = pre A j - pre A (j - lb j)
def steps : List Nat := [0, 1, 2, 4, 8, 16, 32, 64]
theorem chkC : ((List.range 61).all fun a => steps.all fun st => Nat.beq st 0 || !(Nat.beq (a % (2 * st)) 0) || Nat.ble 61 (a + st) || Nat.beq (lb (a + st)) st) = true := by kernel_rfl
theorem chkD : ((List.range 62).all fun m => Nat.beq m 0 || (steps.contains (2 ^ len8 m) && Nat.blt m (2 * 2 ^ len8 m) && Nat.ble (len8 m) 6 && Nat.blt 0 (2 ^ len8 m))) = true := by kernel_rfl
theorem step_half {st : Nat} (h : st ∈ steps) : st / 2 ∈ steps := by
  simp only [steps, List.mem_cons, List.not_mem_nil, or_false] at h ⊢
  omega
theorem step_max {st : Nat} (h : st ∈ steps) (h0 : 0 < st) : max (2 * (st / 2)) 1 = st := by
  simp only [steps, List.mem_cons, List.not_mem_nil, or_false] at h
  omega
theorem step_mod {st a : Nat} (h : st ∈ steps) (h0 : 0 < st / 2) (ha : a % (2 * st) = 0) : a % (2 * (st / 2)) = 0 ∧ (a + st) % (2 * (st / 2)) = 0 := by
  simp only [steps, List.mem_cons, List.not_mem_nil, or_false] at h
  rcases h with rfl | rfl | rfl | rfl | rfl | rfl | rfl | rfl <;> simp only [Nat.reduceMul, Nat.reduceDiv] at * <;> omega
theorem lb_step {st a : Nat} (h : st ∈ steps) (h0 : 0 < st) (ha : a % (2 * st) = 0) (hl : a + st < 61) : lb (a + st) = st := by
  have h1 := List.all_eq_true.1 (List.all_eq_true.1 chkC a (List.mem_range.2 (by omega))) st h
  simp only [Bool.or_eq_true, Nat.beq_eq, Bool.not_eq_true', Nat.ble_eq] at h1
  rcases h1 with ((h1 | h1) | h1) | h1
  · omega
  · rw [ha] at h1; exact absurd h1 (by decide)
  · omega
  · exact h1
theorem len_step {m : Nat} (h0 : 0 < m) (h : m ≤ 61) : 2 ^ len8 m ∈ steps ∧ m < 2 * 2 ^ len8 m ∧ len8 m ≤ 6 ∧ 0 < 2 ^ len8 m := by
  have h1 := List.all_eq_true.1 chkD m (List.mem_range.2 (by omega))
  simp only [Bool.or_eq_true, Nat.beq_eq, Bool.and_eq_true, Nat.blt_eq, Nat.ble_eq, List.contains_iff_mem] at h1
  rcases h1 with h1 | h1
  · omega
  · exact ⟨h1.1.1.1, h1.1.1.2, h1.1.2, h1.2⟩
theorem find_any (A F : List Int) (bt cap : Nat) (r : Int) (w : World) (hA : A.length ≤ 60) (hT : FT A F) (hr : 1 ≤ r ∧ r ≤ pre A A.length) (hb : ∀ j, 0 ≤ pre A j ∧ pre A j ≤ 1099511627776) (hB : Bx w bt (ints F)) :
    Ret Try.prog 34 #[.slice (some ⟨bt, 0, none⟩) F.length cap, .int .i64 r] w fun v w' => (∃ a : Nat, v = .int .i64 (a : Int) ∧ a < A.length ∧ pre A a < r ∧ r ≤ pre A (a + 1)) ∧ Ext w w' := by
  have hE0 := Ext.refl w
  obtain ⟨hFl, hFv⟩ := hT
  have hF : F.length ≤ 61 := by omega
  have kr : Keep (Row w ⟨bt, 0, none⟩ (ints F)) := hB.row
  refine Ret.body Try.func34 rfl Try.ntmps34 rfl ?_
  have hu : IntKind.u64.wrap (F.length : Int) = F.length := IntWalk.u64_in _ (by omega)
  obtain ⟨hs1, hs2, hs3, hs4⟩ := len_step (m := F.length) (by omega) hF
  have hsh : IntKind.i64.wrap ((1 : Int) * 2 ^ len8 F.length) = 1 * 2 ^ len8 F.length := IntWalk.i64_in _ (by
    have h1 : 2 ^ len8 F.length ≤ 2 ^ 6 := Nat.pow_le_pow_right (by omega) hs3
    have h2 : ((2 ^ len8 F.length : Nat) : Int) = (2 : Int) ^ len8 F.length := by rw [Int.natCast_pow]; rfl
    rw [← h2]; omega)
  have hpw : (1 : Int) * 2 ^ len8 F.length = ((2 ^ len8 F.length : Nat) : Int) := by rw [Int.one_mul, Int.natCast_pow]; rfl
  refine Cd.seq ?_
  refine Cd.region ?_
  refine Seg.step rfl rfl (Yd.assign rfl) ?_
  refine Seg.nil ?_
  refine At.then_ ?_
  refine Cd.seq ?_
  refine Cd.region ?_
  refine Seg.step rfl rfl (Yd.assign rfl) ?_
  refine Seg.nil ?_
  refine At.then_ ?_
  refine Cd.seq ?_
  refine Cd.seq ?_
  refine Cd.region ?_
  refine Seg.step rfl rfl (Yd.move rfl) ?_
  refine Seg.step rfl rfl (Yd.lenS rfl rfl) ?_
  (refine Seg.step rfl rfl (Yd.convN rfl rfl rfl hu) ?_)
  (refine Seg.call rfl rfl (own_of rfl) rfl (len_any F.length _ (by omega)) ?_; rintro _ w21 ⟨rfl, hE21⟩)
  replace hB := hB.ext hE21
  replace hE0 := Ext.trans hE0 hE21
  (refine Seg.step rfl rfl (Yd.shlN (by omega) rfl rfl hsh) ?_; rw [hpw])
  refine Seg.step rfl rfl (Yd.assign rfl) ?_
  refine Seg.nil ?_
  refine At.then_ ?_
  refine Cd.block ?_
  refine Cd.loop (σ := Nat × Nat) (fun s => [(0, .slice (some ⟨bt, 0, none⟩) F.length cap), (1, .int .i64 (r - pre A s.1)), (5, .int .i64 (s.1 : Int)), (6, .int .i64 (s.2 : Int))])
    (fun s w' => (s.2 ∈ steps ∧ s.1 < F.length ∧ pre A s.1 < r ∧ (0 < s.2 → s.1 % (2 * s.2) = 0) ∧ (F.length ≤ s.1 + max (2 * s.2) 1 ∨ r ≤ pre A (s.1 + max (2 * s.2) 1))) ∧ Ext w w') (fun s => s.2) (0, 2 ^ len8 F.length) (.cons rfl (.cons (by rw [show pre A 0 = 0 from rfl, Int.sub_zero]; rfl) (.cons rfl (.cons rfl (.nil _)))))
    ⟨⟨hs1, by show 0 < F.length; omega, by show (0 : Int) < r; omega, fun _ => Nat.zero_mod _, .inl (by show F.length ≤ 0 + max (2 * 2 ^ len8 F.length) 1; omega)⟩, by assumption⟩ ?_
  clear hE0
  rintro ⟨a, st⟩ w0 ⟨⟨hst, ha, hpa, hmod, hup⟩, hE0⟩
  simp only at hst ha hpa hmod hup ⊢
  by_cases h0 : 0 < st
  · have h0' : (0 : Int) < st := by omega
    have hmod := hmod h0
    have hmx := step_max hst h0
    have hsl : st ≤ 64 := by
      simp only [steps, List.mem_cons, List.not_mem_nil, or_false] at hst
      omega
    have hmx2 : max (2 * st) 1 = 2 * st := by omega
    rw [hmx2] at hup
    by_cases hlt : a + st < F.length
    · have hlb := lb_step hst h0 hmod (by omega)
      have hval := hFv (a + st) (by omega) hlt
      rw [hlb, Nat.add_sub_cancel] at hval
      have hget := ints_get (xs := F) (i := a + st) hlt
      have hlt' : (a : Int) + (st : Int) < F.length := by omega
      have hba := hb a
      have hbs := hb (a + st)
      have hbl := hb A.length
      by_cases hc : F.getD (a + st) 0 < r - pre A a
      · have hnew : st / 2 ∈ steps ∧ a + st < F.length ∧ pre A (a + st) < r ∧ (0 < st / 2 → (a + st) % (2 * (st / 2)) = 0) ∧ (F.length ≤ a + st + max (2 * (st / 2)) 1 ∨ r ≤ pre A (a + st + max (2 * (st / 2)) 1)) :=
          ⟨step_half hst, hlt, by omega, fun h => (step_mod hst h hmod).2, by rw [hmx, Nat.add_assoc, ← Nat.two_mul]; exact hup⟩
        have hrr : r - pre A a - F.getD (a + st) 0 = r - pre A (a + st) := by omega
        have hf := Row.ext kr hE0 _ _ hget
        refine Cd.seq ?_
        refine Cd.seq ?_
        refine Cd.region ?_
        refine Seg.step rfl rfl (Yd.move rfl) ?_
        refine Seg.step rfl rfl (Yd.gtr rfl rfl) ?_
        refine Seg.nil ?_
        refine At.then_ ?_
        refine Cd.condk rfl (fun h29 => ?_) (fun h29 => ?_)
        · refine Cd.skip ?_
          refine At.then_ ?_
          refine Cd.seq ?_
          refine Cd.block ?_
          refine Cd.seq ?_
          refine Cd.region ?_
          refine Seg.step rfl rfl (Yd.move rfl) ?_
          refine Seg.step rfl rfl (Yd.move rfl) ?_
          refine Seg.step rfl rfl (Yd.addI rfl rfl (by omega)) ?_
          refine Seg.step rfl rfl (Yd.move rfl) ?_
          refine Seg.step rfl rfl (Yd.lenS rfl rfl) ?_
          refine Seg.step rfl rfl (Yd.lss rfl rfl) ?_
          refine Seg.step rfl rfl (Yd.move rfl) ?_
          refine Seg.gsplitp rfl rfl (fun h44 => ?_) (fun h44 => ?_)
          · refine Seg.step rfl rfl (Yd.move rfl) ?_
            refine Seg.step rfl rfl (Yd.move rfl) ?_
            refine Seg.step rfl rfl (Yd.move rfl) ?_
            refine Seg.step rfl rfl (Yd.addI rfl rfl (by omega)) ?_
            refine Seg.step rfl rfl (Yd.indexAddr1 rfl rfl rfl (NatOf.add (NatOf.cast _) (NatOf.cast _)) (by omega)) ?_
            refine Seg.step rfl rfl (Yd.load1 rfl rfl hf) ?_
            refine Seg.step rfl rfl (Yd.move rfl) ?_
            refine Seg.step rfl rfl (Yd.lss rfl rfl) ?_
            refine Seg.step rfl rfl (Yd.pickT rfl rfl) ?_
            refine Seg.nil ?_
            refine At.then_ ?_
            refine Cd.condk rfl (fun h57 => ?_) (fun h57 => ?_)
            · refine Cd.seq ?_
              refine Cd.region ?_
              refine Seg.step rfl rfl (Yd.move rfl) ?_
              refine Seg.step rfl rfl (Yd.move rfl) ?_
              refine Seg.step rfl rfl (Yd.addI rfl rfl (by omega)) ?_
              refine Seg.step rfl rfl (Yd.assign rfl) ?_
              refine Seg.nil ?_
              refine At.then_ ?_
              refine Cd.region ?_
              refine Seg.step rfl rfl (Yd.move rfl) ?_
              refine Seg.step rfl rfl (Yd.move rfl) ?_
              refine Seg.step rfl rfl (Yd.move rfl) ?_
              refine Seg.step rfl rfl (Yd.indexAddr1 rfl rfl rfl (NatOf.add (NatOf.cast _) (NatOf.cast _)) (by omega)) ?_
              refine Seg.step rfl rfl (Yd.load1 rfl rfl hf) ?_
              refine Seg.step rfl rfl (Yd.subI rfl rfl (by omega)) ?_
              refine Seg.step rfl rfl (Yd.assign rfl) ?_
              refine Seg.nil ?_
              refine At.blk ?_
              refine At.then_ ?_
              refine Cd.region ?_
              refine Seg.step rfl rfl (Yd.move rfl) ?_
              (refine Seg.step rfl rfl (Yd.shr1I rfl rfl) ?_)
              refine Seg.step rfl rfl (Yd.assign rfl) ?_
              refine Seg.nil ?_
              exact At.round (a + st, st / 2) (.cons rfl (.cons (congrArg (fun z => some (Value.int .i64 z)) hrr) (.cons rfl (.cons (by rw [Int.natCast_ediv]; rfl) (.nil _))))) ⟨hnew, by assumption⟩ (Nat.div_lt_self h0 (by decide))
            · exfalso; omega
          · exfalso; omega
        · exfalso; omega
      · have hnew : st / 2 ∈ steps ∧ a < F.length ∧ pre A a < r ∧ (0 < st / 2 → a % (2 * (st / 2)) = 0) ∧ (F.length ≤ a + max (2 * (st / 2)) 1 ∨ r ≤ pre A (a + max (2 * (st / 2)) 1)) :=
          ⟨step_half hst, ha, hpa, fun h => (step_mod hst h hmod).1, by rw [hmx]; exact .inr (by omega)⟩
        have hf := Row.ext kr hE0 _ _ hget
        refine Cd.seq ?_
        refine Cd.seq ?_
        refine Cd.region ?_
        refine Seg.step rfl rfl (Yd.move rfl) ?_
        refine Seg.step rfl rfl (Yd.gtr rfl rfl) ?_
        refine Seg.nil ?_
        refine At.then_ ?_
        refine Cd.condk rfl (fun h29 => ?_) (fun h29 => ?_)
        · refine Cd.skip ?_
          refine At.then_ ?_
          refine Cd.seq ?_
          refine Cd.block ?_
          refine Cd.seq ?_
          refine Cd.region ?_
          refine Seg.step rfl rfl (Yd.move rfl) ?_
          refine Seg.step rfl rfl (Yd.move rfl) ?_
          refine Seg.step rfl rfl (Yd.addI rfl rfl (by omega)) ?_
          refine Seg.step rfl rfl (Yd.move rfl) ?_
          refine Seg.step rfl rfl (Yd.lenS rfl rfl) ?_
          refine Seg.step rfl rfl (Yd.lss rfl rfl) ?_
          refine Seg.step rfl rfl (Yd.move rfl) ?_
          refine Seg.gsplitp rfl rfl (fun h44 => ?_) (fun h44 => ?_)
          · refine Seg.step rfl rfl (Yd.move rfl) ?_
            refine Seg.step rfl rfl (Yd.move rfl) ?_
            refine Seg.step rfl rfl (Yd.move rfl) ?_
            refine Seg.step rfl rfl (Yd.addI rfl rfl (by omega)) ?_
            refine Seg.step rfl rfl (Yd.indexAddr1 rfl rfl rfl (NatOf.add (NatOf.cast _) (NatOf.cast _)) (by omega)) ?_
            refine Seg.step rfl rfl (Yd.load1 rfl rfl hf) ?_
            refine Seg.step rfl rfl (Yd.move rfl) ?_
            refine Seg.step rfl rfl (Yd.lss rfl rfl) ?_
            refine Seg.step rfl rfl (Yd.pickT rfl rfl) ?_
            refine Seg.nil ?_
            refine At.then_ ?_
            refine Cd.condk rfl (fun h57 => ?_) (fun h57 => ?_)
            · exfalso; omega
            · refine Cd.skip ?_
              refine At.blk ?_
              refine At.then_ ?_
              refine Cd.region ?_
              refine Seg.step rfl rfl (Yd.move rfl) ?_
              (refine Seg.step rfl rfl (Yd.shr1I rfl rfl) ?_)
              refine Seg.step rfl rfl (Yd.assign rfl) ?_
              refine Seg.nil ?_
              exact At.round (a, st / 2) (.cons rfl (.cons rfl (.cons rfl (.cons (by rw [Int.natCast_ediv]; rfl) (.nil _))))) ⟨hnew, by assumption⟩ (Nat.div_lt_self h0 (by decide))
          · exfalso; omega
        · exfalso; omega
    · have hlt' : ¬ (a : Int) + (st : Int) < F.length := by omega
      have hnew : st / 2 ∈ steps ∧ a < F.length ∧ pre A a < r ∧ (0 < st / 2 → a % (2 * (st / 2)) = 0) ∧ (F.length ≤ a + max (2 * (st / 2)) 1 ∨ r ≤ pre A (a + max (2 * (st / 2)) 1)) :=
        ⟨step_half hst, ha, hpa, fun h => (step_mod hst h hmod).1, by rw [hmx]; exact .inl (by omega)⟩
      refine Cd.seq ?_
      refine Cd.seq ?_
      refine Cd.region ?_
      refine Seg.step rfl rfl (Yd.move rfl) ?_
      (refine Seg.step rfl rfl (Yd.gtr rfl rfl) ?_)
      refine Seg.nil ?_
      refine At.then_ ?_
      refine Cd.condk rfl (fun h29 => ?_) (fun h29 => ?_)
      · refine Cd.skip ?_
        refine At.then_ ?_
        refine Cd.seq ?_
        refine Cd.block ?_
        refine Cd.seq ?_
        refine Cd.region ?_
        refine Seg.step rfl rfl (Yd.move rfl) ?_
        refine Seg.step rfl rfl (Yd.move rfl) ?_
        (refine Seg.step rfl rfl (Yd.addI rfl rfl (by omega)) ?_)
        refine Seg.step rfl rfl (Yd.move rfl) ?_
        refine Seg.step rfl rfl (Yd.lenS rfl rfl) ?_
        (refine Seg.step rfl rfl (Yd.lss rfl rfl) ?_)
        refine Seg.step rfl rfl (Yd.move rfl) ?_
        refine Seg.gsplitp rfl rfl (fun h44 => ?_) (fun h44 => ?_)
        · exfalso; omega
        · refine Seg.skip rfl rfl ?_
          refine Seg.skip rfl rfl ?_
          refine Seg.skip rfl rfl ?_
          refine Seg.skip rfl rfl ?_
          refine Seg.skip rfl rfl ?_
          refine Seg.skip rfl rfl ?_
          refine Seg.skip rfl rfl ?_
          refine Seg.skip rfl rfl ?_
          refine Seg.step rfl rfl (Yd.pickF rfl rfl) ?_
          refine Seg.nil ?_
          refine At.then_ ?_
          refine Cd.condF rfl ?_
          refine Cd.skip ?_
          refine At.blk ?_
          refine At.then_ ?_
          refine Cd.region ?_
          refine Seg.step rfl rfl (Yd.move rfl) ?_
          (refine Seg.step rfl rfl (Yd.shr1I rfl rfl) ?_)
          refine Seg.step rfl rfl (Yd.assign rfl) ?_
          refine Seg.nil ?_
          exact At.round (a, st / 2) (.cons rfl (.cons rfl (.cons rfl (.cons (by rw [Int.natCast_ediv]; rfl) (.nil _))))) ⟨hnew, by assumption⟩ (Nat.div_lt_self h0 (by decide))
      · exfalso; omega
  · have hz : st = 0 := by omega
    subst hz
    have h0' : ¬ (0 : Int) < ((0 : Nat) : Int) := by omega
    have hend : a < A.length ∧ r ≤ pre A (a + 1) := by
      have hm1 : max (2 * 0) 1 = 1 := rfl
      rw [hm1] at hup
      have hlen : a < A.length := by
        rcases Nat.lt_or_ge a A.length with h | h
        · exact h
        · have : a = A.length := by omega
          rw [this] at hpa; omega
      exact ⟨hlen, hup.resolve_left (by omega)⟩
    refine Cd.seq ?_
    refine Cd.seq ?_
    refine Cd.region ?_
    refine Seg.step rfl rfl (Yd.move rfl) ?_
    refine Seg.step rfl rfl (Yd.gtr rfl rfl) ?_
    refine Seg.nil ?_
    refine At.then_ ?_
    refine Cd.condF rfl ?_
    refine Cd.exit ?_
    refine At.then_exit ?_
    refine At.then_exit ?_
    refine At.blk_same ?_
    refine At.then_ ?_
    refine Cd.seq ?_
    refine Cd.region ?_
    refine Seg.step rfl rfl (Yd.move rfl) ?_
    refine Seg.step rfl rfl (Yd.assign rfl) ?_
    refine Seg.nil ?_
    refine At.then_ ?_
    refine Cd.ret ?_
    exact At.ret Try.results34 (.tmp rfl .nil) ⟨⟨a, rfl, hend.1, hpa, hend.2⟩, by assumption⟩
end Go.Proofs.Ytccppgpedlfjdaa
