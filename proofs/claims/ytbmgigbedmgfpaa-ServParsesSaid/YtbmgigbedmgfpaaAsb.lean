/- Bytes and texts: blanks, ends, the first place of a byte, cuts. -/
import Derived.Test.YtbmgigbedmgfpaaWkr
import Derived.Test.YtbmgigbedmgfpaaWkz
import Derived.Test.YtbmgigbedmgfpaaWkt
import Derived.Lib.IndexLaws
namespace Go.Proofs.Ytbmgigbedmgfpaa
open Go Go.RowKit

theorem u8_ne {a b : UInt8} : ((a.toNat : Int) = b.toNat) ↔ a = b := by
  constructor
  · intro h; exact UInt8.toNat_inj.1 (by omega)
  · rintro rfl; rfl
/-- Texts as cells. -/
def strV (xs : List (List UInt8)) : List Value := xs.map fun l => .string ⟨l.toArray⟩
theorem strV_get {xs : List (List UInt8)} {i : Nat} (h : i < xs.length) : (strV xs)[i]? = some (.string ⟨(xs.getD i []).toArray⟩) := by simp [strV, h, List.getD]
theorem strV_length (xs : List (List UInt8)) : (strV xs).length = xs.length := by simp [strV]
theorem strV_one (xs : List (List UInt8)) : ∀ c ∈ strV xs, c.oneCell' = true := by
  intro c hc
  obtain ⟨x, _, rfl⟩ := List.mem_map.1 hc
  rfl
abbrev NameAt (w : World) (v : Value) (xs : List (List UInt8)) : Prop := Sl w 1 v xs.length (strV xs)

def isBl (b : UInt8) : Prop := b = 32 ∨ b = 9
instance (b : UInt8) : Decidable (isBl b) := by unfold isBl; infer_instance
theorem bl_yes {b : UInt8} (h : (b.toNat : Int) = 32 ∨ (b.toNat : Int) = 9) : Value.bool true = .bool (decide (isBl b)) := bT (by
  rcases h with h | h
  · exact .inl (u8_ne.1 (by rw [h]; rfl))
  · exact .inr (u8_ne.1 (by rw [h]; rfl)))
theorem bl_mid {b : UInt8} (h : ¬ (b.toNat : Int) = 32) : Value.bool (decide ((b.toNat : Int) = 9)) = .bool (decide (isBl b)) := by
  congr 1
  rw [decide_eq_decide]
  exact ⟨fun h' => .inr (u8_ne.1 (by rw [h']; rfl)), fun h' => by
    rcases h' with rfl | rfl
    · exact absurd rfl h
    · rfl⟩
theorem blank_any (b : UInt8) (w : World) : Ret Try.prog 45 #[.int .u8 b.toNat] w fun v w' => v = .bool (decide (isBl b)) ∧ Ext w w' := by
  have hE0 := Ext.refl w
  refine Ret.body Try.func45 rfl Try.ntmps45 rfl ?_
  by_cases h1 : (b.toNat : Int) = 32
  · refine Cd.seq ?_
    refine Cd.region ?_
    refine Seg.step rfl rfl (Yd.assign rfl) ?_
    refine Seg.nil ?_
    refine At.then_ ?_
    refine Cd.seq ?_
    refine Cd.region ?_
    refine Seg.step rfl rfl (Yd.move rfl) ?_
    refine Seg.step rfl rfl (Yd.eql rfl rfl) ?_
    refine Seg.step rfl rfl (Yd.move rfl) ?_
    refine Seg.gsplitp rfl rfl (fun h12 => ?_) (fun h12 => ?_)
    · refine Seg.skip rfl rfl ?_
      refine Seg.skip rfl rfl ?_
      refine Seg.step rfl rfl (Yd.pickT rfl rfl) ?_
      refine Seg.step rfl rfl (Yd.assign rfl) ?_
      refine Seg.nil ?_
      refine At.then_ ?_
      refine Cd.ret ?_
      exact At.ret Try.results45 (.tmp rfl .nil) ⟨bl_yes (.inl (by assumption)), hE0⟩
    · exfalso; omega
  · refine Cd.seq ?_
    refine Cd.region ?_
    refine Seg.step rfl rfl (Yd.assign rfl) ?_
    refine Seg.nil ?_
    refine At.then_ ?_
    refine Cd.seq ?_
    refine Cd.region ?_
    refine Seg.step rfl rfl (Yd.move rfl) ?_
    refine Seg.step rfl rfl (Yd.eql rfl rfl) ?_
    refine Seg.step rfl rfl (Yd.move rfl) ?_
    refine Seg.gsplitp rfl rfl (fun h12 => ?_) (fun h12 => ?_)
    · exfalso; omega
    · refine Seg.step rfl rfl (Yd.move rfl) ?_
      refine Seg.step rfl rfl (Yd.eql rfl rfl) ?_
      refine Seg.step rfl rfl (Yd.pickF rfl rfl) ?_
      refine Seg.step rfl rfl (Yd.assign rfl) ?_
      refine Seg.nil ?_
      refine At.then_ ?_
      refine Cd.ret ?_
      exact At.ret Try.results45 (.tmp rfl .nil) ⟨bl_mid (by assumption), hE0⟩

/-- A carriage return at the end is taken off. -/
def trimCR (l : List UInt8) : List UInt8 := if l.getLast? = some 13 then l.dropLast else l
theorem trimCR_len (l : List UInt8) : (trimCR l).length ≤ l.length := by
  unfold trimCR; split
  · simp
  · exact Nat.le_refl _
theorem last_iff {l : List UInt8} (h : 1 ≤ l.length) : l.drop (l.length - 1) = [13] ↔ l.getLast? = some 13 := by
  have hn : l ≠ [] := fun e => by subst e; simp at h
  have h2 := List.dropLast_concat_getLast hn
  have hl : l.dropLast.length = l.length - 1 := by simp
  have : l.drop (l.length - 1) = [l.getLast hn] := by
    conv => lhs; rw [← hl]
    conv => lhs; arg 2; rw [← h2]
    rw [List.drop_left]
  rw [this, List.getLast?_eq_some_getLast hn]
  simp
theorem hasSuf_any (l : List UInt8) (w : World) (hl : l.length ≤ 1000000) : Ret Try.prog 47 #[.string ⟨l.toArray⟩, .string ⟨[(13 : UInt8)].toArray⟩] w fun v w' => v = .bool (decide (l.getLast? = some 13)) ∧ Ext w w' := by
  have hE0 := Ext.refl w
  refine Ret.body Try.func47 rfl Try.ntmps47 rfl ?_
  by_cases h1 : 1 ≤ l.length
  · have hd : Value.bool (decide (l.drop (l.length - 1) = [13])) = .bool (decide (l.getLast? = some 13)) := by rw [decide_eq_decide.2 (last_iff h1)]
    have hk : NatOf ((l.length : Int) - (1 : Nat)) (l.length - 1) := NatOf.sub (NatOf.cast _) (NatOf.cast _) h1
    refine Cd.seq ?_
    refine Cd.region ?_
    refine Seg.step rfl rfl (Yd.assign rfl) ?_
    refine Seg.nil ?_
    refine At.then_ ?_
    refine Cd.seq ?_
    refine Cd.region ?_
    refine Seg.step rfl rfl (Yd.move rfl) ?_
    refine Seg.step rfl rfl (Yd.lenStr rfl rfl) ?_
    refine Seg.step rfl rfl (Yd.move rfl) ?_
    refine Seg.step rfl rfl (Yd.lenStr rfl rfl) ?_
    refine Seg.step rfl rfl (Yd.geq rfl rfl) ?_
    refine Seg.step rfl rfl (Yd.move rfl) ?_
    refine Seg.gsplitp rfl rfl (fun h15 => ?_) (fun h15 => ?_)
    · refine Seg.step rfl rfl (Yd.move rfl) ?_
      refine Seg.step rfl rfl (Yd.move rfl) ?_
      refine Seg.step rfl rfl (Yd.lenStr rfl rfl) ?_
      refine Seg.step rfl rfl (Yd.move rfl) ?_
      refine Seg.step rfl rfl (Yd.lenStr rfl rfl) ?_
      refine Seg.step rfl rfl (Yd.subI rfl rfl (by omega)) ?_
      (refine Seg.step rfl rfl (Yd.slStrL rfl rfl rfl hk (by omega)) ?_)
      refine Seg.step rfl rfl (Yd.move rfl) ?_
      refine Seg.step rfl rfl (Yd.eqlS rfl rfl) ?_
      refine Seg.step rfl rfl (Yd.pickT rfl rfl) ?_
      refine Seg.step rfl rfl (Yd.assign rfl) ?_
      refine Seg.nil ?_
      refine At.then_ ?_
      refine Cd.ret ?_
      exact At.ret Try.results47 (.tmp rfl .nil) ⟨hd, hE0⟩
    · refine Seg.skip rfl rfl ?_
      refine Seg.skip rfl rfl ?_
      refine Seg.skip rfl rfl ?_
      refine Seg.skip rfl rfl ?_
      refine Seg.skip rfl rfl ?_
      refine Seg.skip rfl rfl ?_
      refine Seg.skip rfl rfl ?_
      refine Seg.skip rfl rfl ?_
      refine Seg.skip rfl rfl ?_
      refine Seg.step rfl rfl (Yd.pickF rfl rfl) ?_
      refine Seg.step rfl rfl (Yd.assign rfl) ?_
      refine Seg.nil ?_
      refine At.then_ ?_
      refine Cd.ret ?_
      (exfalso; simp at *; omega)
  · have h0 : l = [] := List.eq_nil_of_length_eq_zero (by omega)
    subst h0
    refine Cd.seq ?_
    refine Cd.region ?_
    refine Seg.step rfl rfl (Yd.assign rfl) ?_
    refine Seg.nil ?_
    refine At.then_ ?_
    refine Cd.seq ?_
    refine Cd.region ?_
    refine Seg.step rfl rfl (Yd.move rfl) ?_
    refine Seg.step rfl rfl (Yd.lenStr rfl rfl) ?_
    refine Seg.step rfl rfl (Yd.move rfl) ?_
    refine Seg.step rfl rfl (Yd.lenStr rfl rfl) ?_
    refine Seg.step rfl rfl (Yd.geq rfl rfl) ?_
    refine Seg.step rfl rfl (Yd.move rfl) ?_
    refine Seg.skip rfl rfl ?_
    refine Seg.skip rfl rfl ?_
    refine Seg.skip rfl rfl ?_
    refine Seg.skip rfl rfl ?_
    refine Seg.skip rfl rfl ?_
    refine Seg.skip rfl rfl ?_
    refine Seg.skip rfl rfl ?_
    refine Seg.skip rfl rfl ?_
    refine Seg.skip rfl rfl ?_
    refine Seg.step rfl rfl (Yd.pickF rfl rfl) ?_
    refine Seg.step rfl rfl (Yd.assign rfl) ?_
    refine Seg.nil ?_
    refine At.then_ ?_
    refine Cd.ret ?_
    exact At.ret Try.results47 (.tmp rfl .nil) ⟨bF (by simp), hE0⟩
theorem trimA_any (l : List UInt8) (w : World) (hl : l.length ≤ 1000000) : Ret Try.prog 44 #[.string ⟨l.toArray⟩, .string ⟨[(13 : UInt8)].toArray⟩] w fun v w' => v = .string ⟨(trimCR l).toArray⟩ ∧ Ext w w' := by
  have hE0 := Ext.refl w
  refine Ret.body Try.func44 rfl Try.ntmps44 rfl ?_
  by_cases h1 : l.getLast? = some 13
  · have h13 : ((([13] : List UInt8).length : Nat) : Int) = 1 := rfl
    have hd : decide (l.getLast? = some 13) = true := decide_eq_true h1
    have hne : 1 ≤ l.length := by
      rcases l with _ | ⟨b, l⟩
      · cases h1
      · simp
    have hk : NatOf ((l.length : Int) - (1 : Nat)) (l.length - 1) := NatOf.sub (NatOf.cast _) (NatOf.cast _) hne
    have he : Value.string ⟨(l.take (l.length - 1)).toArray⟩ = .string ⟨(trimCR l).toArray⟩ := by
      unfold trimCR; rw [if_pos h1, List.dropLast_eq_take]
    refine Cd.seq ?_
    refine Cd.region ?_
    refine Seg.step rfl rfl (Yd.assign rfl) ?_
    refine Seg.nil ?_
    refine At.then_ ?_
    refine Cd.seq ?_
    refine Cd.seq ?_
    refine Cd.region ?_
    refine Seg.step rfl rfl (Yd.move rfl) ?_
    refine Seg.step rfl rfl (Yd.move rfl) ?_
    (refine Seg.call rfl rfl (own_of rfl) rfl (hasSuf_any l _ hl) ?_; rw [hd]; rintro _ w24 ⟨rfl, hE24⟩)
    replace hE0 := Ext.trans hE0 hE24
    refine Seg.nil ?_
    refine At.then_ ?_
    refine Cd.condT rfl ?_
    refine Cd.seq ?_
    refine Cd.region ?_
    refine Seg.step rfl rfl (Yd.move rfl) ?_
    refine Seg.step rfl rfl (Yd.move rfl) ?_
    refine Seg.step rfl rfl (Yd.lenStr rfl rfl) ?_
    refine Seg.step rfl rfl (Yd.move rfl) ?_
    refine Seg.step rfl rfl (Yd.lenStr rfl rfl) ?_
    refine Seg.step rfl rfl (Yd.subI rfl rfl (by omega)) ?_
    (refine Seg.step rfl rfl (Yd.slStrH rfl rfl rfl hk (by omega)) ?_)
    refine Seg.step rfl rfl (Yd.assign rfl) ?_
    refine Seg.nil ?_
    refine At.then_ ?_
    refine Cd.ret ?_
    refine At.then_ret ?_
    exact At.ret Try.results44 (.tmp rfl .nil) ⟨he, hE0⟩
  · have hd : decide (l.getLast? = some 13) = false := decide_eq_false h1
    have he : Value.string ⟨l.toArray⟩ = .string ⟨(trimCR l).toArray⟩ := by
      unfold trimCR; rw [if_neg h1]
    refine Cd.seq ?_
    refine Cd.region ?_
    refine Seg.step rfl rfl (Yd.assign rfl) ?_
    refine Seg.nil ?_
    refine At.then_ ?_
    refine Cd.seq ?_
    refine Cd.seq ?_
    refine Cd.region ?_
    refine Seg.step rfl rfl (Yd.move rfl) ?_
    refine Seg.step rfl rfl (Yd.move rfl) ?_
    (refine Seg.call rfl rfl (own_of rfl) rfl (hasSuf_any l _ hl) ?_; rw [hd]; rintro _ w12 ⟨rfl, hE12⟩)
    replace hE0 := Ext.trans hE0 hE12
    refine Seg.nil ?_
    refine At.then_ ?_
    refine Cd.condF rfl ?_
    refine Cd.skip ?_
    refine At.then_ ?_
    refine Cd.seq ?_
    refine Cd.region ?_
    refine Seg.step rfl rfl (Yd.move rfl) ?_
    refine Seg.step rfl rfl (Yd.assign rfl) ?_
    refine Seg.nil ?_
    refine At.then_ ?_
    refine Cd.ret ?_
    exact At.ret Try.results44 (.tmp rfl .nil) ⟨he, hE0⟩
theorem trim_any (l : List UInt8) (w : World) (hl : l.length ≤ 1000000) : Ret Try.prog 39 #[.string ⟨l.toArray⟩, .string ⟨[(13 : UInt8)].toArray⟩] w fun v w' => v = .string ⟨(trimCR l).toArray⟩ ∧ Ext w w' := by
  have hE0 := Ext.refl w
  refine Ret.body Try.func39 rfl Try.ntmps39 rfl ?_
  refine Cd.seq ?_
  refine Cd.region ?_
  refine Seg.step rfl rfl (Yd.assign rfl) ?_
  refine Seg.nil ?_
  refine At.then_ ?_
  refine Cd.seq ?_
  refine Cd.region ?_
  refine Seg.step rfl rfl (Yd.move rfl) ?_
  refine Seg.step rfl rfl (Yd.move rfl) ?_
  (refine Seg.call rfl rfl (own_of rfl) rfl (trimA_any l _ hl) ?_; rintro _ w10 ⟨rfl, hE10⟩)
  replace hE0 := Ext.trans hE0 hE10
  refine Seg.step rfl rfl (Yd.assign rfl) ?_
  refine Seg.nil ?_
  refine At.then_ ?_
  refine Cd.ret ?_
  exact At.ret Try.results39 (.tmp rfl .nil) ⟨rfl, hE0⟩

/-- The first place of a byte: told by the library's word. -/
theorem Yd.indexB {n : Nat} {fr : Fr} {w : World} {x y : Operand} {ats : Array TypeId} {T : TypeId} {l : List UInt8} {c : UInt8} (hx : Fr.ev fr x = some (.string ⟨l.toArray⟩)) (hy : Fr.ev fr y = some (.int .u8 c.toNat)) :
    Yd Try.prog n (.call ⟨.value (.func 48), #[x, y], ats⟩) T fr w (.int .i64 (Lib.indexByte l c)) w :=
  .val fun a ha d pos aft g => by
    have e : execOp a.eval ⟨d, .call ⟨.value (.func 48), #[x, y], ats⟩, T, pos, aft, g⟩ = callFunc 48 (#[] ++ [x, y].toArray.map a.eval ++ #[]) := rfl
    have e2 : (#[] ++ [x, y].toArray.map a.eval ++ #[] : Array Value) = #[.string ⟨l.toArray⟩, .int .u8 c.toNat] := by simp [ha.ev hx, ha.ev hy]
    have h := Lib.run_indexByteString (P := Try.prog) ⟨l.toArray⟩ (c.toNat : Int) w
    rw [e, e2, run_callFunc_extern Try.func48 (by kernel_rfl) (by kernel_rfl) (by kernel_rfl) (e := Extern.BytealgIndexByte.indexByte) (by kernel_rfl), h]
    simp
theorem indexA_any (l : List UInt8) (c : UInt8) (w : World) : Ret Try.prog 46 #[.string ⟨l.toArray⟩, .int .u8 c.toNat] w fun v w' => v = .int .i64 (Lib.indexByte l c) ∧ Ext w w' := by
  have hE0 := Ext.refl w
  refine Ret.body Try.func46 rfl Try.ntmps46 rfl ?_
  refine Cd.seq ?_
  refine Cd.region ?_
  refine Seg.step rfl rfl (Yd.assign rfl) ?_
  refine Seg.nil ?_
  refine At.then_ ?_
  refine Cd.seq ?_
  refine Cd.region ?_
  refine Seg.step rfl rfl (Yd.move rfl) ?_
  refine Seg.step rfl rfl (Yd.move rfl) ?_
  (refine Seg.step rfl rfl (Yd.indexB rfl rfl) ?_)
  refine Seg.step rfl rfl (Yd.assign rfl) ?_
  refine Seg.nil ?_
  refine At.then_ ?_
  refine Cd.ret ?_
  exact At.ret Try.results46 (.tmp rfl .nil) ⟨rfl, hE0⟩
theorem index_any (l : List UInt8) (c : UInt8) (w : World) : Ret Try.prog 42 #[.string ⟨l.toArray⟩, .int .u8 c.toNat] w fun v w' => v = .int .i64 (Lib.indexByte l c) ∧ Ext w w' := by
  have hE0 := Ext.refl w
  refine Ret.body Try.func42 rfl Try.ntmps42 rfl ?_
  refine Cd.seq ?_
  refine Cd.region ?_
  refine Seg.step rfl rfl (Yd.assign rfl) ?_
  refine Seg.nil ?_
  refine At.then_ ?_
  refine Cd.seq ?_
  refine Cd.region ?_
  refine Seg.step rfl rfl (Yd.move rfl) ?_
  refine Seg.step rfl rfl (Yd.move rfl) ?_
  (refine Seg.call rfl rfl (own_of rfl) rfl (indexA_any l c _) ?_; rintro _ w10 ⟨rfl, hE10⟩)
  replace hE0 := Ext.trans hE0 hE10
  refine Seg.step rfl rfl (Yd.assign rfl) ?_
  refine Seg.nil ?_
  refine At.then_ ?_
  refine Cd.ret ?_
  exact At.ret Try.results42 (.tmp rfl .nil) ⟨rfl, hE0⟩

/-- What stands ahead of a byte, behind it, and whether it is there. -/
def cutB (c : UInt8) : List UInt8 → List UInt8 × List UInt8 × Bool
  | [] => ([], [], false)
  | x :: r => if x = c then ([], r, true) else (x :: (cutB c r).1, (cutB c r).2.1, (cutB c r).2.2)
theorem cutB_idx (c : UInt8) : ∀ l : List UInt8, (Lib.indexByte l c = -1 ∧ cutB c l = (l, [], false)) ∨ ∃ n : Nat, Lib.indexByte l c = n ∧ n < l.length ∧ cutB c l = (l.take n, l.drop (n + 1), true)
  | [] => .inl ⟨rfl, rfl⟩
  | x :: r => by
    by_cases hx : x = c
    · subst hx
      exact .inr ⟨0, by simp [Lib.indexByte], by simp, by simp [cutB]⟩
    · have hb : (x == c) = false := by simpa using hx
      rcases cutB_idx c r with ⟨h1, h2⟩ | ⟨n, h1, h2, h3⟩
      · left
        refine ⟨by simp [Lib.indexByte, hb, h1], by simp [cutB, hx, h2]⟩
      · right
        have hn : ((n : Int) == -1) = false := by rw [beq_eq_false_iff_ne]; omega
        exact ⟨n + 1, by simp [Lib.indexByte, hb, h1, hn], by simpa using h2, by simp [cutB, hx, h3]⟩
theorem cut_any (l : List UInt8) (c : UInt8) (w : World) (hl : l.length ≤ 1000000) : Ret Try.prog 34 #[.string ⟨l.toArray⟩, .int .u8 c.toNat] w fun v w' => v = .tuple #[.string ⟨(cutB c l).1.toArray⟩, .string ⟨(cutB c l).2.1.toArray⟩, .bool (cutB c l).2.2] ∧ Ext w w' := by
  have hE0 := Ext.refl w
  have hT : ∀ v, v = Value.tuple #[.string ⟨(cutB c l).1.toArray⟩, .string ⟨(cutB c l).2.1.toArray⟩, .bool (cutB c l).2.2] → v = Value.tuple #[.string ⟨(cutB c l).1.toArray⟩, .string ⟨(cutB c l).2.1.toArray⟩, .bool (cutB c l).2.2] := fun _ h => h
  refine Ret.body Try.func34 rfl Try.ntmps34 rfl ?_
  rcases cutB_idx c l with ⟨h1, h2⟩ | ⟨n, h1, h2, h3⟩
  · rw [h2]
    refine Cd.seq ?_
    refine Cd.region ?_
    refine Seg.step rfl rfl (Yd.assign rfl) ?_
    refine Seg.step rfl rfl (Yd.assign rfl) ?_
    refine Seg.step rfl rfl (Yd.assign rfl) ?_
    refine Seg.nil ?_
    refine At.then_ ?_
    refine Cd.seq ?_
    refine Cd.region ?_
    refine Seg.step rfl rfl (Yd.move rfl) ?_
    refine Seg.step rfl rfl (Yd.move rfl) ?_
    (refine Seg.call rfl rfl (own_of rfl) rfl (index_any l c _) ?_; rw [h1]; rintro _ w14 ⟨rfl, hE14⟩)
    replace hE0 := Ext.trans hE0 hE14
    refine Seg.step rfl rfl (Yd.assign rfl) ?_
    refine Seg.nil ?_
    refine At.then_ ?_
    refine Cd.seq ?_
    refine Cd.seq ?_
    refine Cd.region ?_
    refine Seg.step rfl rfl (Yd.move rfl) ?_
    refine Seg.step rfl rfl (Yd.lss rfl rfl) ?_
    refine Seg.nil ?_
    refine At.then_ ?_
    refine Cd.condT rfl ?_
    refine Cd.seq ?_
    refine Cd.region ?_
    refine Seg.step rfl rfl (Yd.move rfl) ?_
    refine Seg.step rfl rfl (Yd.assign rfl) ?_
    refine Seg.step rfl rfl (Yd.assign rfl) ?_
    refine Seg.step rfl rfl (Yd.assign rfl) ?_
    refine Seg.nil ?_
    refine At.then_ ?_
    refine Cd.ret ?_
    refine At.then_ret ?_
    exact At.ret Try.results34 (.tmp rfl (.tmp rfl (.tmp rfl .nil))) ⟨rfl, hE0⟩
  · rw [h3]
    refine Cd.seq ?_
    refine Cd.region ?_
    refine Seg.step rfl rfl (Yd.assign rfl) ?_
    refine Seg.step rfl rfl (Yd.assign rfl) ?_
    refine Seg.step rfl rfl (Yd.assign rfl) ?_
    refine Seg.nil ?_
    refine At.then_ ?_
    refine Cd.seq ?_
    refine Cd.region ?_
    refine Seg.step rfl rfl (Yd.move rfl) ?_
    refine Seg.step rfl rfl (Yd.move rfl) ?_
    (refine Seg.call rfl rfl (own_of rfl) rfl (index_any l c _) ?_; rw [h1]; rintro _ w15 ⟨rfl, hE15⟩)
    replace hE0 := Ext.trans hE0 hE15
    refine Seg.step rfl rfl (Yd.assign rfl) ?_
    refine Seg.nil ?_
    refine At.then_ ?_
    refine Cd.seq ?_
    refine Cd.seq ?_
    refine Cd.region ?_
    refine Seg.step rfl rfl (Yd.move rfl) ?_
    refine Seg.step rfl rfl (Yd.lss rfl rfl) ?_
    refine Seg.nil ?_
    refine At.then_ ?_
    refine Cd.condF rfl ?_
    refine Cd.skip ?_
    refine At.then_ ?_
    refine Cd.seq ?_
    refine Cd.quiet (by kernel_rfl) (by kernel_rfl) ?_
    refine SegQ.step rfl rfl (fun w' hw' => Yd.move rfl) ?_
    refine SegQ.step rfl rfl (fun w' hw' => Yd.move rfl) ?_
    refine SegQ.step rfl rfl (fun w' hw' => Yd.slStrH rfl rfl rfl (NatOf.cast _) (by omega)) ?_
    refine SegQ.step rfl rfl (fun w' hw' => Yd.move rfl) ?_
    refine SegQ.step rfl rfl (fun w' hw' => Yd.move rfl) ?_
    refine SegQ.step rfl rfl (fun w' hw' => Yd.addI rfl rfl (by omega)) ?_
    refine SegQ.step rfl rfl (fun w' hw' => Yd.slStrL rfl rfl rfl (NatOf.add (NatOf.cast _) (NatOf.cast 1)) (by omega)) ?_
    refine SegQ.step rfl rfl (fun w' hw' => Yd.assign rfl) ?_
    refine SegQ.step rfl rfl (fun w' hw' => Yd.assign rfl) ?_
    refine SegQ.step rfl rfl (fun w' hw' => Yd.assign rfl) ?_
    refine SegQ.nil fun w41 hE41 => ?_
    replace hE15 := Ext.trans hE15 hE41
    replace hE0 := Ext.trans hE0 hE41
    refine At.then_ ?_
    refine Cd.ret ?_
    exact At.ret Try.results34 (.tmp rfl (.tmp rfl (.tmp rfl .nil))) ⟨rfl, hE0⟩
end Go.Proofs.Ytbmgigbedmgfpaa
