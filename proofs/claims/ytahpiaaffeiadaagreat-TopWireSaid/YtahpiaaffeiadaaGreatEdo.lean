/- Names of hosts, written and read: package domain, where all letters are plain. The reference's hosts: the walks. -/
import Derived.Test.YtahpiaaffeiadaaGreatEas
namespace Go.Proofs.YtahpiaaffeiadaaGreat
open Go Go.RowKit
/-- Bytes of one's own. -/
abbrev OwnB (w : World) (base : Nat) (v : Value) (l : List UInt8) : Prop := w.ownsRow base 5 1 v l.length (bytesV l)
theorem own_snoc {w : World} {base : Nat} {v : Value} {l m : List UInt8} (h : w.ownsRow base 5 (0 + 1) v (l.length + m.length) (bytesV l ++ bytesV m)) : OwnB w base v (l ++ m) := by
  unfold OwnB
  rw [List.length_append, bytesV_append]; exact h
/-- 'append' onto bytes of one's own. -/
theorem Seg.appB {n : Fm} {ops : Array Oper} {Q : Exit → Act → World → Prop} {fr : Fr} {w : World} {T : TypeId} {d U base : Nat} {x y : Operand} {pos : String} {aft : Array Edge} {g : Option (Nat × Bool)} {rest : List Oper} {v u : Value} {X m : List UInt8}
    (hg : gd ops fr g = some true) (hd : Nat.blt d n.n = true) (hU : slOf Tryz.prog U = some (5, 0 + 1)) (hx : Fr.ev fr x = some v) (hy : Fr.ev fr y = some u) (ho : OwnB w base v X) (hs : Sl w (0 + 1) u m.length (bytesV m)) (hb : base ≤ w.heap.size) (hl : X.length + m.length ≤ 100000000)
    (k : ∀ v' w1, OwnB w1 base v' (X ++ m) → w.grownBy w1 v.ownBlock → (∀ a0 : World, Ext a0 w → a0.heap.size ≤ base → Ext a0 w1) → w.heap.size ≤ w1.heap.size → (v'.ownBlock = v.ownBlock ∨ v'.ownBlock = some w.heap.size) → Seg Tryz.prog n ops Q rest ((d, v') :: fr) w1) :
    Seg Tryz.prog n ops Q (⟨some d, .call ⟨.builtin .append, #[x, y], #[U, U]⟩, T, pos, aft, g⟩ :: rest) fr w :=
  Seg.appendAt (xs := bytesV X) (news := bytesV m) hg hd hU rfl rfl rfl rfl hx hy ho hs (bytesV_one m) hb hl rfl fun v' w1 hN hG hA =>
    k v' w1 (own_snoc hN) hG (fun _ hE h => Ext.own hE ho h hG) hG.size hA
theorem plain_in {c : UInt8} (h : plainI (c.toNat : Int)) : ¬ (c.toNat : Int) = 46 ∧ ¬ (c.toNat : Int) = 92 ∧ ¬ (c.toNat : Int) < 33 ∧ ¬ 126 < (c.toNat : Int) := by
  unfold plainI at h; omega
/-- A name, written. -/
def dotN (n : List (List UInt8)) : List UInt8 := n.flatMap fun l => l ++ [46]
theorem dotN_snoc (n : List (List UInt8)) (l : List UInt8) : dotN (n ++ [l]) = dotN n ++ l ++ [46] := by simp [dotN]
theorem dotN_len (n : List (List UInt8)) : (dotN n).length + 1 = szN n := by
  unfold szN dotN
  induction n with
  | nil => rfl
  | cons l n ih => simp at ih ⊢; omega
def plainN (n : List (List UInt8)) : Prop := ∀ l ∈ n, ∀ b ∈ l, plainI (b.toNat : Int)
theorem dotN_pos {n : List (List UInt8)} (hn : n ≠ []) : 1 ≤ (dotN n).length := by
  cases n with
  | nil => exact absurd rfl hn
  | cons l n => simp [dotN]; omega
/-- Texts of one's own. -/
abbrev OwnS (w : World) (base : Nat) (v : Value) (n : List (List UInt8)) : Prop := w.ownsRow base 9 1 v n.length (strV n)
theorem owns_snoc {w : World} {base : Nat} {v : Value} {l m : List (List UInt8)} (h : w.ownsRow base 9 (0 + 1) v (l.length + m.length) (strV l ++ strV m)) : OwnS w base v (l ++ m) := by
  unfold OwnS
  rw [List.length_append, strV_append]; exact h
/-- 'append' onto texts of one's own. -/
theorem Seg.appS {n : Fm} {ops : Array Oper} {Q : Exit → Act → World → Prop} {fr : Fr} {w : World} {T : TypeId} {d U base : Nat} {x y : Operand} {pos : String} {aft : Array Edge} {g : Option (Nat × Bool)} {rest : List Oper} {v u : Value} {X m : List (List UInt8)}
    (hg : gd ops fr g = some true) (hd : Nat.blt d n.n = true) (hU : slOf Tryz.prog U = some (9, 0 + 1)) (hx : Fr.ev fr x = some v) (hy : Fr.ev fr y = some u) (ho : OwnS w base v X) (hs : Sl w (0 + 1) u m.length (strV m)) (hb : base ≤ w.heap.size) (hl : X.length + m.length ≤ 100000000)
    (k : ∀ v' w1, OwnS w1 base v' (X ++ m) → w.grownBy w1 v.ownBlock → (∀ a0 : World, Ext a0 w → a0.heap.size ≤ base → Ext a0 w1) → w.heap.size ≤ w1.heap.size → (v'.ownBlock = v.ownBlock ∨ v'.ownBlock = some w.heap.size) → Seg Tryz.prog n ops Q rest ((d, v') :: fr) w1) :
    Seg Tryz.prog n ops Q (⟨some d, .call ⟨.builtin .append, #[x, y], #[U, U]⟩, T, pos, aft, g⟩ :: rest) fr w :=
  Seg.appendAt (xs := strV X) (news := strV m) hg hd hU rfl rfl rfl rfl hx hy ho hs (strV_one m) hb hl rfl fun v' w1 hN hG hA =>
    k v' w1 (owns_snoc hN) hG (fun _ hE h => Ext.own hE ho h hG) hG.size hA
/-- A name, written with a last dot or without. -/
def txtN : List (List UInt8) → Bool → List UInt8
  | [], _ => []
  | [l], d => l ++ (if d then [46] else [])
  | l :: m :: r, d => l ++ 46 :: txtN (m :: r) d
theorem txt_split (l : List UInt8) (m : List (List UInt8)) (d : Bool) : ∃ r, txtN (l :: m) d = l ++ r ∧ ((r = [] ∧ m = [] ∧ d = false) ∨ (r = 46 :: txtN m d ∧ (m = [] → d = true))) := by
  cases m with
  | nil =>
    cases d
    · exact ⟨[], rfl, .inl ⟨rfl, rfl, rfl⟩⟩
    · exact ⟨[46], rfl, .inr ⟨rfl, fun _ => rfl⟩⟩
  | cons m r => exact ⟨_, rfl, .inr ⟨rfl, fun h => by cases h⟩⟩
theorem txt_true : ∀ n : List (List UInt8), txtN n true = dotN n
  | [] => rfl
  | [l] => by simp [txtN, dotN]
  | l :: m :: r => by
    rw [txtN, txt_true (m :: r)]
    simp [dotN]
theorem txt_false : ∀ n : List (List UInt8), n ≠ [] → txtN n false = (dotN n).dropLast
  | [], h => absurd rfl h
  | [l], _ => by simp [txtN, dotN]
  | l :: m :: r, _ => by
    rw [txtN, txt_false (m :: r) (by simp)]
    have e : dotN (l :: m :: r) = (l ++ [46]) ++ dotN (m :: r) := by simp [dotN]
    have hne : dotN (m :: r) ≠ [] := fun h => by have := dotN_pos (n := m :: r) (by simp); rw [h] at this; simp at this
    rw [e, List.dropLast_append_of_ne_nil hne]
    simp
theorem txt_len (n : List (List UInt8)) (d : Bool) : (txtN n d).length ≤ szN n := by
  have h := dotN_len n
  cases d
  · cases n with
    | nil => simp [txtN]
    | cons l m => rw [txt_false _ (by simp), List.length_dropLast]; omega
  · rw [txt_true]; omega
theorem txt_drop (n : List (List UInt8)) (i : Nat) (d : Bool) : (txtN (n.drop i) d).length ≤ szN n := by
  have h1 := txt_len (n.drop i) d
  have h2 : szN (n.drop i) ≤ szN n := by
    conv => rhs; rw [← List.take_append_drop i n]
    unfold szN
    rw [List.map_append, List.sum_append]
    omega
  omega
structure PsS where
  i : Nat
  v : Value
  f : Bool
end Go.Proofs.YtahpiaaffeiadaaGreat
namespace Go.Proofs.YtahpiaaffeiadaaGreat
open Go Go.RowKit
def hostN (n : List (List UInt8)) : Prop := ∀ l ∈ n, hostL l
theorem hostN_lab {n : List (List UInt8)} (h : hostN n) : labN n := fun l hl => ⟨(h l hl).1, (h l hl).2.1⟩
theorem hostN_plain {n : List (List UInt8)} (h : hostN n) : plainN n := fun l hl => (h l hl).2.2.2.2
end Go.Proofs.YtahpiaaffeiadaaGreat
