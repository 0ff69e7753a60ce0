/- Names and texts: small letters, sameness; the walks. -/
import Derived.Test.YtidhelgoopdloaaWks
import Derived.Test.YtidhelgoopdloaaWkz
import Derived.Test.YtidhelgoopdloaaWkt
namespace Go.Proofs.Ytidhelgoopdloaa
open Go Go.RowKit

def lowB (b : UInt8) : UInt8 := if 65 ≤ b.toNat ∧ b.toNat ≤ 90 then b + 32 else b
def lowS (l : List UInt8) : List UInt8 := l.map lowB
theorem lowB_nat (b : UInt8) : (lowB b).toNat = if 65 ≤ b.toNat ∧ b.toNat ≤ 90 then b.toNat + 32 else b.toNat := by
  unfold lowB
  split
  · rename_i h
    rw [UInt8.toNat_add]
    have : (32 : UInt8).toNat = 32 := rfl
    omega
  · rfl
theorem u8_id {i : Int} (h : 0 ≤ i) (h' : i < 256) : IntKind.u8.wrap i = i := IntWalk.u8_in i ⟨h, by omega⟩
theorem byte_lt (b : UInt8) : b.toNat < 256 := b.toNat_lt

theorem low_in {b : UInt8} (h : (65 : Int) ≤ b.toNat) (h' : (b.toNat : Int) ≤ 90) : Value.int .u8 (IntKind.u8.wrap ((b.toNat : Int) + 32)) = .int .u8 (lowB b).toNat := by
  rw [lowB_nat, if_pos (by omega), u8_id (by omega) (by omega)]
  rfl
theorem low_out {b : UInt8} (h : ¬ ((65 : Int) ≤ b.toNat ∧ (b.toNat : Int) ≤ 90)) : Value.int .u8 (b.toNat : Int) = .int .u8 (lowB b).toNat := by
  rw [lowB_nat, if_neg (by omega)]
theorem small_any (b : UInt8) (w : World) : Ret Try.prog 35 #[.int .u8 b.toNat] w fun v w' => v = .int .u8 (lowB b).toNat ∧ Ext w w' := by
  have hE0 := Ext.refl w
  refine Ret.body Try.func35 rfl Try.ntmps35 rfl ?_
  refine Cd.seq ?_
  refine Cd.region ?_
  refine Seg.step rfl rfl (Yd.assign rfl) ?_
  refine Seg.nil ?_
  refine At.then_ ?_
  refine Cd.seq ?_
  refine Cd.seq ?_
  refine Cd.region ?_
  refine Seg.step rfl rfl (Yd.move rfl) ?_
  refine Seg.step rfl rfl (Yd.leq rfl rfl) ?_
  refine Seg.step rfl rfl (Yd.move rfl) ?_
  refine Seg.gsplitp rfl rfl (fun h12 => ?_) (fun h12 => ?_)
  · refine Seg.step rfl rfl (Yd.move rfl) ?_
    refine Seg.step rfl rfl (Yd.leq rfl rfl) ?_
    refine Seg.step rfl rfl (Yd.pickT rfl rfl) ?_
    refine Seg.nil ?_
    refine At.then_ ?_
    refine Cd.condk rfl (fun h19 => ?_) (fun h19 => ?_)
    · refine Cd.seq ?_
      refine Cd.region ?_
      refine Seg.step rfl rfl (Yd.move rfl) ?_
      refine Seg.step rfl rfl (Yd.add rfl rfl) ?_
      refine Seg.step rfl rfl (Yd.assign rfl) ?_
      refine Seg.nil ?_
      refine At.then_ ?_
      refine Cd.ret ?_
      refine At.then_ret ?_
      first | exact At.ret Try.results35 (.tmp rfl .nil) ⟨low_in (by omega) (by omega), hE0⟩ | exact At.ret Try.results35 (.tmp rfl .nil) ⟨low_out (by omega), hE0⟩
    · refine Cd.skip ?_
      refine At.then_ ?_
      refine Cd.seq ?_
      refine Cd.region ?_
      refine Seg.step rfl rfl (Yd.move rfl) ?_
      refine Seg.step rfl rfl (Yd.assign rfl) ?_
      refine Seg.nil ?_
      refine At.then_ ?_
      refine Cd.ret ?_
      first | exact At.ret Try.results35 (.tmp rfl .nil) ⟨low_in (by omega) (by omega), hE0⟩ | exact At.ret Try.results35 (.tmp rfl .nil) ⟨low_out (by omega), hE0⟩
  · refine Seg.skip rfl rfl ?_
    refine Seg.skip rfl rfl ?_
    refine Seg.step rfl rfl (Yd.pickF rfl rfl) ?_
    refine Seg.nil ?_
    refine At.then_ ?_
    refine Cd.condF rfl ?_
    refine Cd.skip ?_
    refine At.then_ ?_
    refine Cd.seq ?_
    refine Cd.region ?_
    refine Seg.step rfl rfl (Yd.move rfl) ?_
    refine Seg.step rfl rfl (Yd.assign rfl) ?_
    refine Seg.nil ?_
    refine At.then_ ?_
    refine Cd.ret ?_
    first | exact At.ret Try.results35 (.tmp rfl .nil) ⟨low_in (by omega) (by omega), hE0⟩ | exact At.ret Try.results35 (.tmp rfl .nil) ⟨low_out (by omega), hE0⟩

theorem lowS_length (l : List UInt8) : (lowS l).length = l.length := by simp [lowS]
theorem u8_ne {a b : UInt8} : ((a.toNat : Int) = b.toNat) ↔ a = b := by
  constructor
  · intro h; exact UInt8.toNat_inj.1 (by omega)
  · rintro rfl; rfl
/-- Do the first i letters agree, but for their size? -/
def LowTo (l m : List UInt8) (i : Nat) : Prop := ∀ j, j < i → lowB (l.getD j 0) = lowB (m.getD j 0)
theorem LowTo.succ {l m : List UInt8} {i : Nat} (h : LowTo l m i) (he : lowB (l.getD i 0) = lowB (m.getD i 0)) : LowTo l m (i + 1) := fun j hj => by
  rcases Nat.lt_succ_iff_lt_or_eq.1 hj with hj | rfl
  · exact h j hj
  · exact he
theorem LowTo.all {l m : List UInt8} (hl : l.length = m.length) (h : LowTo l m l.length) : lowS l = lowS m := by
  apply List.ext_getElem (by simp [lowS, hl])
  intro j h1 h2
  simp [lowS] at h1 h2
  have := h j h1
  simpa [lowS, List.getD, h1, h2] using this
theorem LowTo.not {l m : List UInt8} {i : Nat} (hl : l.length = m.length) (hi : i < l.length) (h : ¬ lowB (l.getD i 0) = lowB (m.getD i 0)) : lowS l ≠ lowS m := by
  intro e
  apply h
  have := congrArg (fun x => x[i]?) e
  simp [lowS, hi, show i < m.length by omega] at this
  simpa [List.getD, hi, show i < m.length by omega] using this

theorem lowS_ne {l m : List UInt8} (h : l.length ≠ m.length) : lowS l ≠ lowS m := fun e => h (by simpa [lowS_length] using congrArg List.length e)
theorem asame_any (l m : List UInt8) (w : World) (hb : l.length ≤ 9223372036854775807) : Ret Try.prog 34 #[.string ⟨l.toArray⟩, .string ⟨m.toArray⟩] w fun v w' => v = .bool (decide (lowS l = lowS m)) ∧ Ext w w' := by
  have hE0 := Ext.refl w
  refine Ret.body Try.func34 rfl Try.ntmps34 rfl ?_
  refine Cd.seq ?_
  refine Cd.region ?_
  refine Seg.step rfl rfl (Yd.assign rfl) ?_
  refine Seg.nil ?_
  refine At.then_ ?_
  refine Cd.seq ?_
  refine Cd.seq ?_
  refine Cd.region ?_
  refine Seg.step rfl rfl (Yd.move rfl) ?_
  refine Seg.step rfl rfl (Yd.lenStr rfl rfl) ?_
  refine Seg.step rfl rfl (Yd.move rfl) ?_
  refine Seg.step rfl rfl (Yd.lenStr rfl rfl) ?_
  refine Seg.step rfl rfl (Yd.neq rfl rfl) ?_
  refine Seg.nil ?_
  refine At.then_ ?_
  refine Cd.condk rfl (fun h16 => ?_) (fun h16 => ?_)
  · refine Cd.seq ?_
    refine Cd.region ?_
    refine Seg.step rfl rfl (Yd.assign rfl) ?_
    refine Seg.nil ?_
    refine At.then_ ?_
    refine Cd.ret ?_
    refine At.then_ret ?_
    exact At.ret Try.results34 (.tmp rfl .nil) ⟨bF (lowS_ne (by omega)), hE0⟩
  refine Cd.skip ?_
  refine At.then_ ?_
  refine Cd.seq ?_
  refine Cd.seq ?_
  refine Cd.region ?_
  refine Seg.step rfl rfl (Yd.move rfl) ?_
  refine Seg.step rfl rfl (Yd.lenStr rfl rfl) ?_
  refine Seg.step rfl rfl (Yd.move rfl) ?_
  refine Seg.nil ?_
  refine At.then_ ?_
  refine Cd.block ?_
  have hlm : l.length = m.length := by omega
  refine Cd.loop (σ := Nat) (fun s => [(0, .string ⟨l.toArray⟩), (1, .string ⟨m.toArray⟩), (4, .bool false), (12, .int .i64 l.length), (13, .int .i64 s)])
    (fun s w' => s ≤ l.length ∧ LowTo l m s ∧ Ext w w') (fun s => l.length - s) 0 (.cons rfl (.cons rfl (.cons rfl (.cons rfl (.cons rfl (.nil _)))))) ⟨Nat.zero_le _, fun _ h => absurd h (Nat.not_lt_zero _), hE0⟩ ?_
  clear hE0
  intro i w0 ⟨hi, hT, hE0⟩
  by_cases hlt : i < l.length
  · by_cases he : lowB (l.getD i 0) = lowB (m.getD i 0)
    · have he' : ((lowB (l.getD i 0)).toNat : Int) = (lowB (m.getD i 0)).toNat := by rw [he]
      refine Cd.seq ?_
      refine Cd.region ?_
      refine Seg.step rfl rfl (Yd.lss rfl rfl) ?_
      refine Seg.nil ?_
      refine At.then_ ?_
      refine Cd.seq ?_
      refine Cd.condk rfl (fun h23 => ?_) (fun h23 => ?_)
      · refine Cd.skip ?_
        refine At.then_ ?_
        refine Cd.seq ?_
        refine Cd.block ?_
        refine Cd.seq ?_
        refine Cd.region ?_
        refine Seg.step rfl rfl (Yd.move rfl) ?_
        refine Seg.step rfl rfl (Yd.assign rfl) ?_
        refine Seg.nil ?_
        refine At.then_ ?_
        refine Cd.seq ?_
        refine Cd.quiet (by kernel_rfl) (by kernel_rfl) ?_
        refine SegQ.step rfl rfl (fun w' hw' => Yd.move rfl) ?_
        refine SegQ.step rfl rfl (fun w' hw' => Yd.move rfl) ?_
        refine SegQ.step rfl rfl (fun w' hw' => Yd.indexStr rfl rfl rfl (NatOf.cast _) (by omega)) ?_
        refine SegQ.call rfl rfl (own_of rfl) rfl (fun w' hw' => (small_any _ w').mono fun v w2 ⟨hv, h2⟩ => ⟨hv, hw'.trans h2⟩) ?_
        refine SegQ.step rfl rfl (fun w' hw' => Yd.move rfl) ?_
        refine SegQ.step rfl rfl (fun w' hw' => Yd.move rfl) ?_
        refine SegQ.step rfl rfl (fun w' hw' => Yd.indexStr rfl rfl rfl (NatOf.cast _) (by omega)) ?_
        refine SegQ.call rfl rfl (own_of rfl) rfl (fun w' hw' => (small_any _ w').mono fun v w2 ⟨hv, h2⟩ => ⟨hv, hw'.trans h2⟩) ?_
        refine SegQ.step rfl rfl (fun w' hw' => Yd.neq rfl rfl) ?_
        refine SegQ.nil fun w46 hE46 => ?_
        replace hE0 := Ext.trans hE0 hE46
        refine At.then_ ?_
        refine Cd.condk rfl (fun h48 => ?_) (fun h48 => ?_)
        · exfalso; omega
        · refine Cd.skip ?_
          refine At.blk ?_
          refine At.then_ ?_
          refine Cd.region ?_
          refine Seg.step rfl rfl (Yd.addI rfl rfl (by omega)) ?_
          refine Seg.step rfl rfl (Yd.move rfl) ?_
          refine Seg.nil ?_
          exact At.round (i + 1) (.cons rfl (.cons rfl (.cons rfl (.cons rfl (.cons rfl (.nil _)))))) ⟨by omega, LowTo.succ hT he, hE0⟩ (by show _ - _ < _ - _; omega)
      · exfalso; omega
    · have he' : ¬ ((lowB (l.getD i 0)).toNat : Int) = (lowB (m.getD i 0)).toNat := fun e => he (u8_ne.1 e)
      refine Cd.seq ?_
      refine Cd.region ?_
      refine Seg.step rfl rfl (Yd.lss rfl rfl) ?_
      refine Seg.nil ?_
      refine At.then_ ?_
      refine Cd.seq ?_
      refine Cd.condk rfl (fun h23 => ?_) (fun h23 => ?_)
      · refine Cd.skip ?_
        refine At.then_ ?_
        refine Cd.seq ?_
        refine Cd.block ?_
        refine Cd.seq ?_
        refine Cd.region ?_
        refine Seg.step rfl rfl (Yd.move rfl) ?_
        refine Seg.step rfl rfl (Yd.assign rfl) ?_
        refine Seg.nil ?_
        refine At.then_ ?_
        refine Cd.seq ?_
        refine Cd.quiet (by kernel_rfl) (by kernel_rfl) ?_
        refine SegQ.step rfl rfl (fun w' hw' => Yd.move rfl) ?_
        refine SegQ.step rfl rfl (fun w' hw' => Yd.move rfl) ?_
        refine SegQ.step rfl rfl (fun w' hw' => Yd.indexStr rfl rfl rfl (NatOf.cast _) (by omega)) ?_
        refine SegQ.call rfl rfl (own_of rfl) rfl (fun w' hw' => (small_any _ w').mono fun v w2 ⟨hv, h2⟩ => ⟨hv, hw'.trans h2⟩) ?_
        refine SegQ.step rfl rfl (fun w' hw' => Yd.move rfl) ?_
        refine SegQ.step rfl rfl (fun w' hw' => Yd.move rfl) ?_
        refine SegQ.step rfl rfl (fun w' hw' => Yd.indexStr rfl rfl rfl (NatOf.cast _) (by omega)) ?_
        refine SegQ.call rfl rfl (own_of rfl) rfl (fun w' hw' => (small_any _ w').mono fun v w2 ⟨hv, h2⟩ => ⟨hv, hw'.trans h2⟩) ?_
        refine SegQ.step rfl rfl (fun w' hw' => Yd.neq rfl rfl) ?_
        refine SegQ.nil fun w46 hE46 => ?_
        replace hE0 := Ext.trans hE0 hE46
        refine At.then_ ?_
        refine Cd.condk rfl (fun h48 => ?_) (fun h48 => ?_)
        · refine Cd.seq ?_
          refine Cd.region ?_
          refine Seg.step rfl rfl (Yd.assign rfl) ?_
          refine Seg.nil ?_
          refine At.then_ ?_
          refine Cd.ret ?_
          refine At.blk_ret ?_
          refine At.then_ret ?_
          refine At.then_ret ?_
          refine At.blk_ret ?_
          refine At.then_ret ?_
          exact At.ret Try.results34 (.tmp rfl .nil) ⟨bF (LowTo.not hlm hlt he), hE0⟩
        · exfalso; omega
      · exfalso; omega
  · obtain rfl : i = l.length := by omega
    refine Cd.seq ?_
    refine Cd.region ?_
    refine Seg.step rfl rfl (Yd.lss rfl rfl) ?_
    refine Seg.nil ?_
    refine At.then_ ?_
    refine Cd.seq ?_
    refine Cd.condk rfl (fun h23 => ?_) (fun h23 => ?_)
    · exfalso; omega
    · refine Cd.exit ?_
      refine At.then_exit ?_
      refine At.then_exit ?_
      refine At.blk_same ?_
      refine At.then_ ?_
      refine Cd.seq ?_
      refine Cd.region ?_
      refine Seg.step rfl rfl (Yd.assign rfl) ?_
      refine Seg.nil ?_
      refine At.then_ ?_
      refine Cd.ret ?_
      exact At.ret Try.results34 (.tmp rfl .nil) ⟨bT (hT.all hlm), hE0⟩

/-- Texts as cells. -/
def strV (xs : List (List UInt8)) : List Value := xs.map fun l => .string ⟨l.toArray⟩
theorem strV_get {xs : List (List UInt8)} {i : Nat} (h : i < xs.length) : (strV xs)[i]? = some (.string ⟨(xs.getD i []).toArray⟩) := by simp [strV, h, List.getD]
theorem strV_length (xs : List (List UInt8)) : (strV xs).length = xs.length := by simp [strV]
theorem strV_one (xs : List (List UInt8)) : ∀ c ∈ strV xs, c.oneCell' = true := by
  intro c hc
  obtain ⟨x, _, rfl⟩ := List.mem_map.1 hc
  rfl
def lowN (xs : List (List UInt8)) : List (List UInt8) := xs.map lowS
theorem lowN_length (l : List (List UInt8)) : (lowN l).length = l.length := by simp [lowN]
/-- A name of few and short texts. -/
def Fit (xs : List (List UInt8)) : Prop := xs.length ≤ 1000 ∧ ∀ l ∈ xs, l.length ≤ 1000
theorem Fit.get {xs : List (List UInt8)} (h : Fit xs) (i : Nat) : (xs.getD i []).length ≤ 1000 := by
  by_cases hi : i < xs.length
  · rw [List.getD_eq_getElem?_getD, List.getElem?_eq_getElem hi]
    exact h.2 _ (List.getElem_mem hi)
  · rw [List.getD_eq_getElem?_getD, List.getElem?_eq_none (by omega)]
    exact Nat.zero_le _
def Upto {α : Type} [Inhabited α] (f : α → α) (l m : List α) (i : Nat) : Prop := ∀ j, j < i → f (l.getD j default) = f (m.getD j default)
theorem Upto.zero {α : Type} [Inhabited α] {f : α → α} {l m : List α} : Upto f l m 0 := fun _ h => absurd h (Nat.not_lt_zero _)
theorem Upto.succ {α : Type} [Inhabited α] {f : α → α} {l m : List α} {i : Nat} (h : Upto f l m i) (he : f (l.getD i default) = f (m.getD i default)) : Upto f l m (i + 1) := fun j hj => by
  rcases Nat.lt_succ_iff_lt_or_eq.1 hj with hj | rfl
  · exact h j hj
  · exact he
theorem Upto.all {α : Type} [Inhabited α] {f : α → α} {l m : List α} (hl : l.length = m.length) (h : Upto f l m l.length) : l.map f = m.map f := by
  apply List.ext_getElem (by simp [hl])
  intro j h1 h2
  simp at h1 h2
  have := h j h1
  simpa [List.getD, h1, h2] using this
theorem Upto.not {α : Type} [Inhabited α] {f : α → α} {l m : List α} {i : Nat} (hl : l.length = m.length) (hi : i < l.length) (h : ¬ f (l.getD i default) = f (m.getD i default)) : l.map f ≠ m.map f := by
  intro e
  apply h
  have := congrArg (fun x => x[i]?) e
  simp [hi, show i < m.length by omega] at this
  simpa [List.getD, hi, show i < m.length by omega] using this
theorem map_ne {α : Type} {f : α → α} {l m : List α} (h : l.length ≠ m.length) : l.map f ≠ m.map f := fun e => h (by simpa using congrArg List.length e)

/-- A name's value. -/
abbrev NameAt (w : World) (v : Value) (xs : List (List UInt8)) : Prop := Sl w 1 v xs.length (strV xs)

theorem dsame_any (xs ys : List (List UInt8)) (v0 v1 : Value) (w : World) (h0 : NameAt w v0 xs) (h1 : NameAt w v1 ys) (hx : Fit xs) :
    Ret Try.prog 32 #[v0, v1] w fun v w' => v = .bool (decide (lowN xs = lowN ys)) ∧ Ext w w' := by
  have hE0 := Ext.refl w
  obtain ⟨ao, c, rfl, hl0, hr0, hz0⟩ := h0
  obtain ⟨ao', c', rfl, hl1, hr1, hz1⟩ := h1
  have hx1 := hx.1
  refine Ret.body Try.func32 rfl Try.ntmps32 rfl ?_
  refine Cd.seq ?_
  refine Cd.region ?_
  refine Seg.step rfl rfl (Yd.assign rfl) ?_
  refine Seg.nil ?_
  refine At.then_ ?_
  refine Cd.seq ?_
  refine Cd.seq ?_
  refine Cd.region ?_
  refine Seg.step rfl rfl (Yd.move rfl) ?_
  refine Seg.step rfl rfl (Yd.lenS rfl rfl) ?_
  refine Seg.step rfl rfl (Yd.move rfl) ?_
  refine Seg.step rfl rfl (Yd.lenS rfl rfl) ?_
  refine Seg.step rfl rfl (Yd.neq rfl rfl) ?_
  refine Seg.nil ?_
  refine At.then_ ?_
  refine Cd.condk rfl (fun h17 => ?_) (fun h17 => ?_)
  · refine Cd.seq ?_
    refine Cd.region ?_
    refine Seg.step rfl rfl (Yd.assign rfl) ?_
    refine Seg.nil ?_
    refine At.then_ ?_
    refine Cd.ret ?_
    refine At.then_ret ?_
    exact At.ret Try.results32 (.tmp rfl .nil) ⟨bF (map_ne (by omega)), hE0⟩
  refine Cd.skip ?_
  refine At.then_ ?_
  refine Cd.seq ?_
  refine Cd.seq ?_
  refine Cd.region ?_
  refine Seg.step rfl rfl (Yd.move rfl) ?_
  refine Seg.step rfl rfl (Yd.lenS rfl rfl) ?_
  refine Seg.step rfl rfl (Yd.move rfl) ?_
  refine Seg.nil ?_
  refine At.then_ ?_
  refine Cd.block ?_
  have hlm : xs.length = ys.length := by omega
  refine Cd.loop (σ := Nat) (fun s => [(0, .slice ao xs.length c), (1, .slice ao' ys.length c'), (4, .bool false), (12, .slice ao xs.length c), (13, .int .i64 xs.length), (14, .int .i64 s)])
    (fun s w' => s ≤ xs.length ∧ Upto lowS xs ys s ∧ Ext w w') (fun s => xs.length - s) 0 (.cons rfl (.cons rfl (.cons rfl (.cons rfl (.cons rfl (.cons rfl (.nil _))))))) ⟨Nat.zero_le _, Upto.zero, hE0⟩ ?_
  clear hE0
  intro i w0 ⟨hi, hT, hE0⟩
  by_cases hlt : i < xs.length
  · obtain ⟨a, rfl⟩ : ∃ a, ao = some a := by
      cases ao with
      | none => have := hz0 rfl; omega
      | some a => exact ⟨a, rfl⟩
    obtain ⟨a', rfl⟩ : ∃ a, ao' = some a := by
      cases ao' with
      | none => have := hz1 rfl; omega
      | some a => exact ⟨a, rfl⟩
    have hr0 := hr0 a rfl
    have hr1 := hr1 a' rfl
    have hfit := hx.get i
    by_cases he : lowS (xs.getD i []) = lowS (ys.getD i [])
    · refine Cd.seq ?_
      refine Cd.region ?_
      refine Seg.step rfl rfl (Yd.lss rfl rfl) ?_
      refine Seg.nil ?_
      refine At.then_ ?_
      refine Cd.seq ?_
      refine Cd.condk rfl (fun h24 => ?_) (fun h24 => ?_)
      · refine Cd.skip ?_
        refine At.then_ ?_
        refine Cd.seq ?_
        refine Cd.block ?_
        refine Cd.seq ?_
        refine Cd.region ?_
        refine Seg.step rfl rfl (Yd.move rfl) ?_
        refine Seg.step rfl rfl (Yd.indexAddr1 rfl rfl rfl (NatOf.cast _) (by omega)) ?_
        refine Seg.step rfl rfl (Yd.load1 rfl rfl ((hr0.ext hE0) _ _ (strV_get hlt))) ?_
        refine Seg.step rfl rfl (Yd.assign rfl) ?_
        refine Seg.step rfl rfl (Yd.assign rfl) ?_
        refine Seg.nil ?_
        refine At.then_ ?_
        refine Cd.seq ?_
        refine Cd.region ?_
        refine Seg.step rfl rfl (Yd.move rfl) ?_
        refine Seg.step rfl rfl (Yd.move rfl) ?_
        refine Seg.step rfl rfl (Yd.move rfl) ?_
        refine Seg.step rfl rfl (Yd.indexAddr1 rfl rfl rfl (NatOf.cast _) (by omega)) ?_
        refine Seg.step rfl rfl (Yd.load1 rfl rfl ((hr1.ext hE0) _ _ (strV_get (hlm ▸ hlt)))) ?_
        (refine Seg.call rfl rfl (own_of rfl) rfl (asame_any _ _ _ (by omega)) ?_; rw [decide_eq_true he]; rintro _ w46 ⟨rfl, hE46⟩)
        replace hE0 := Ext.trans hE0 hE46
        refine Seg.step rfl rfl (Yd.not rfl) ?_
        refine Seg.nil ?_
        refine At.then_ ?_
        refine Cd.condF rfl ?_
        refine Cd.skip ?_
        refine At.blk ?_
        refine At.then_ ?_
        refine Cd.region ?_
        refine Seg.step rfl rfl (Yd.addI rfl rfl (by omega)) ?_
        refine Seg.step rfl rfl (Yd.move rfl) ?_
        refine Seg.nil ?_
        exact At.round (i + 1) (.cons rfl (.cons rfl (.cons rfl (.cons rfl (.cons rfl (.cons rfl (.nil _))))))) ⟨by omega, hT.succ he, hE0⟩ (by show _ - _ < _ - _; omega)
      · exfalso; omega
    · refine Cd.seq ?_
      refine Cd.region ?_
      refine Seg.step rfl rfl (Yd.lss rfl rfl) ?_
      refine Seg.nil ?_
      refine At.then_ ?_
      refine Cd.seq ?_
      refine Cd.condk rfl (fun h24 => ?_) (fun h24 => ?_)
      · refine Cd.skip ?_
        refine At.then_ ?_
        refine Cd.seq ?_
        refine Cd.block ?_
        refine Cd.seq ?_
        refine Cd.region ?_
        refine Seg.step rfl rfl (Yd.move rfl) ?_
        refine Seg.step rfl rfl (Yd.indexAddr1 rfl rfl rfl (NatOf.cast _) (by omega)) ?_
        refine Seg.step rfl rfl (Yd.load1 rfl rfl ((hr0.ext hE0) _ _ (strV_get hlt))) ?_
        refine Seg.step rfl rfl (Yd.assign rfl) ?_
        refine Seg.step rfl rfl (Yd.assign rfl) ?_
        refine Seg.nil ?_
        refine At.then_ ?_
        refine Cd.seq ?_
        refine Cd.region ?_
        refine Seg.step rfl rfl (Yd.move rfl) ?_
        refine Seg.step rfl rfl (Yd.move rfl) ?_
        refine Seg.step rfl rfl (Yd.move rfl) ?_
        refine Seg.step rfl rfl (Yd.indexAddr1 rfl rfl rfl (NatOf.cast _) (by omega)) ?_
        refine Seg.step rfl rfl (Yd.load1 rfl rfl ((hr1.ext hE0) _ _ (strV_get (hlm ▸ hlt)))) ?_
        (refine Seg.call rfl rfl (own_of rfl) rfl (asame_any _ _ _ (by omega)) ?_; rw [decide_eq_false he]; rintro _ w46 ⟨rfl, hE46⟩)
        replace hE0 := Ext.trans hE0 hE46
        refine Seg.step rfl rfl (Yd.not rfl) ?_
        refine Seg.nil ?_
        refine At.then_ ?_
        refine Cd.condT rfl ?_
        refine Cd.seq ?_
        refine Cd.region ?_
        refine Seg.step rfl rfl (Yd.assign rfl) ?_
        refine Seg.nil ?_
        refine At.then_ ?_
        refine Cd.ret ?_
        refine At.blk_ret ?_
        refine At.then_ret ?_
        refine At.then_ret ?_
        refine At.blk_ret ?_
        refine At.then_ret ?_
        exact At.ret Try.results32 (.tmp rfl .nil) ⟨bF (Upto.not hlm hlt he), hE0⟩
      · exfalso; omega
  · obtain rfl : i = xs.length := by omega
    refine Cd.seq ?_
    refine Cd.region ?_
    refine Seg.step rfl rfl (Yd.lss rfl rfl) ?_
    refine Seg.nil ?_
    refine At.then_ ?_
    refine Cd.seq ?_
    refine Cd.condk rfl (fun h24 => ?_) (fun h24 => ?_)
    · exfalso; omega
    · refine Cd.exit ?_
      refine At.then_exit ?_
      refine At.then_exit ?_
      refine At.blk_same ?_
      refine At.then_ ?_
      refine Cd.seq ?_
      refine Cd.region ?_
      refine Seg.step rfl rfl (Yd.assign rfl) ?_
      refine Seg.nil ?_
      refine At.then_ ?_
      refine Cd.ret ?_
      exact At.ret Try.results32 (.tmp rfl .nil) ⟨bT (hT.all hlm), hE0⟩
end Go.Proofs.Ytidhelgoopdloaa
