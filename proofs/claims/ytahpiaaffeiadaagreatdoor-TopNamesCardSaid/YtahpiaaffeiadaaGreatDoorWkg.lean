/- Walk rules, part six: append. -/
import Derived.Test.YtahpiaaffeiadaaGreatDoorWkf
import Derived.Laws.AppendOwnNone
namespace Go.Proofs.YtahpiaaffeiadaaGreatDoor
open Go Go.RowKit

theorem info_of_run {P : Program} {T : TypeId} {i : TypeInfo} (h : ∀ w, (typeInfo T).run P w = .ok i w) : P.info? T = some i := by
  have h' := h default
  unfold typeInfo at h'
  rw [Sem.run_bind, run_program] at h'
  simp only [Result.andThen_ok] at h'
  cases hi : P.info? T with
  | none => rw [hi] at h'; simp at h'
  | some j => rw [hi] at h'; simp at h'; rw [h']

section
variable {P : Program} [Tys P] {n : Fm} {ops : Array Oper} {Q : Exit → Act → World → Prop} {fr : Fr} {w : World} {T : TypeId}

theorem run_app {U e s by' base m m' : Nat} {z v u : Value} {xs news : List Value} (hU : slOf P U = some (e, s + 1)) (hz : zerOf P e = some z) (hzs : Nat.beq z.cells.size (s + 1) = true) (hby : byOf P e = some by') (hsz : szOf P e = some (s + 1))
    (hown : w.ownsRow base e (s + 1) v m xs) (hs : Sl w (s + 1) u m' news) (h1 : ∀ c ∈ news, c.oneCell' = true) (hbase : base ≤ w.heap.size) (hb1 : m + m' ≤ maxLen) (hb2 : (m + m') * by' ≤ 140737488355328) :
    ∃ v' w', (Builtin.append_ #[U, U] T #[v, u]).run P w = .ok v' w' ∧ w'.ownsRow base e (s + 1) v' (m + m') (xs ++ news) ∧ w.grownBy w' v.ownBlock ∧ (v' = .slice none 0 0 ↔ v = .slice none 0 0 ∧ m' = 0) := by
  obtain ⟨hund, hsize⟩ := und_sl hU
  obtain ⟨i, hi, hib, his⟩ := run_inf hby hsz
  have hinfo := info_of_run hi
  have hzz : i.zero = some z := by
    have := run_zero hz w
    unfold zeroValue at this
    rw [Sem.run_bind, hi] at this
    simp only [Result.andThen_ok] at this
    cases hiz : i.zero with
    | none => rw [hiz] at this; simp at this
    | some z' => rw [hiz] at this; simp at this; rw [this]
  have hzs := Nat.eq_of_beq_eq_true hzs
  obtain ⟨ao, c, rfl, hl, hr, hn⟩ := hs
  cases ao with
  | none =>
    have hm' := hn rfl
    subst hm'
    have hnil : news = [] := List.eq_nil_of_length_eq_zero (by simpa using hl)
    subst hnil
    have hrun : (Builtin.append_ #[U, U] T #[v, .slice none 0 c]).run P w = .ok v w := by
      rcases hown.2 with ⟨rfl, rfl⟩ | ⟨g, cap, cur, rfl, hbg, hg, hnc, hcm, hcs, htake⟩
      · simp [Builtin.append_, run_underlying hund, sizeOf, hi, Builtin.lenOf, Builtin.firstCells]
      · simp [Builtin.append_, run_underlying hund, sizeOf, hi, Builtin.lenOf, Builtin.firstCells, hnc, storeCells]
    exact ⟨v, w, hrun, by simpa using hown, ⟨rfl, rfl, rfl, Nat.le_refl _, fun _ _ _ => rfl⟩, by simp⟩
  | some a =>
    exact run_append_own w base U T e i z (s + 1) by' hund hinfo hzz his hib hzs (by omega) v m xs hown a m' c news hl (hr a rfl) h1 hb1 hb2 hbase

/-- 'append(v, u...)', v one's own. -/
theorem Seg.append {d U e s by' base m m' : Nat} {x y : Operand} {pos : String} {aft : Array Edge} {g : Option (Nat × Bool)} {rest : List Oper} {z v u : Value} {xs news : List Value}
    (hg : gd ops fr g = some true) (hd : Nat.blt d n.n = true) (hU : slOf P U = some (e, s + 1)) (hz : zerOf P e = some z) (hzs : Nat.beq z.cells.size (s + 1) = true) (hby : byOf P e = some by') (hsz : szOf P e = some (s + 1))
    (hx : Fr.ev fr x = some v) (hy : Fr.ev fr y = some u) (hown : w.ownsRow base e (s + 1) v m xs) (hs : Sl w (s + 1) u m' news) (h1 : ∀ c ∈ news, c.oneCell' = true) (hbase : base ≤ w.heap.size) (hb : m + m' ≤ 100000000) (hb' : Nat.ble by' 1000000 = true)
    (k : ∀ v' w1, w1.ownsRow base e (s + 1) v' (m + m') (xs ++ news) → w.grownBy w1 v.ownBlock → (v' = .slice none 0 0 ↔ v = .slice none 0 0 ∧ m' = 0) → Seg P n ops Q rest ((d, v') :: fr) w1) :
    Seg P n ops Q (⟨some d, .call ⟨.builtin .append, #[x, y], #[U, U]⟩, T, pos, aft, g⟩ :: rest) fr w := by
  obtain ⟨v', w1, hrun, h2, h3, h4⟩ := run_app (T := T) hU hz hzs hby hsz hown hs h1 hbase (by unfold maxLen; omega) (by
    have h5 : (m + m') * by' ≤ 100000000 * 1000000 := Nat.mul_le_mul hb (Nat.le_of_ble_eq_true hb')
    omega)
  refine Seg.step hg hd (.val fun a ha d pos aft g => ?_) (k v' w1 h2 h3 h4)
  simp [execOp, resolve, invoke, builtin, ha.ev hx, ha.ev hy, hrun]

/-- 'append(nil, u...)': a copy in a block of its own. -/
theorem Seg.appendNil {d U e s by' m' : Nat} {x y : Operand} {pos : String} {aft : Array Edge} {g : Option (Nat × Bool)} {rest : List Oper} {z u : Value} {news : List Value}
    (hg : gd ops fr g = some true) (hd : Nat.blt d n.n = true) (hU : slOf P U = some (e, s + 1)) (hz : zerOf P e = some z) (hzs : Nat.beq z.cells.size (s + 1) = true) (hby : byOf P e = some by') (hsz : szOf P e = some (s + 1))
    (hx : Fr.ev fr x = some (.slice none 0 0)) (hy : Fr.ev fr y = some u) (hs : Sl w (s + 1) u m' news) (h1 : ∀ c ∈ news, c.oneCell' = true) (hb : m' ≤ 100000000) (hb' : Nat.ble by' 1000000 = true)
    (k : ∀ v' w1, w1.ownsRow w.heap.size e (s + 1) v' m' news → Ext w w1 → Seg P n ops Q rest ((d, v') :: fr) w1) :
    Seg P n ops Q (⟨some d, .call ⟨.builtin .append, #[x, y], #[U, U]⟩, T, pos, aft, g⟩ :: rest) fr w :=
  Seg.append hg hd hU hz hzs hby hsz hx hy (World.ownsRow_nil w w.heap.size e (s + 1)) hs h1 (Nat.le_refl _) (by omega) hb'
    (fun v' w1 h2 h3 _ => k v' w1 (by simpa using h2) (grown_ext h3))

/-- 'append(v, u...)', v one's own and empty. -/
theorem Seg.append0 {d U e s by' base m' : Nat} {x y : Operand} {pos : String} {aft : Array Edge} {g : Option (Nat × Bool)} {rest : List Oper} {z v u : Value} {news : List Value}
    (hg : gd ops fr g = some true) (hd : Nat.blt d n.n = true) (hU : slOf P U = some (e, s + 1)) (hz : zerOf P e = some z) (hzs : Nat.beq z.cells.size (s + 1) = true) (hby : byOf P e = some by') (hsz : szOf P e = some (s + 1))
    (hx : Fr.ev fr x = some v) (hy : Fr.ev fr y = some u) (hown : w.ownsRow base e (s + 1) v 0 []) (hs : Sl w (s + 1) u m' news) (h1 : ∀ c ∈ news, c.oneCell' = true) (hbase : base ≤ w.heap.size) (hb : m' ≤ 100000000) (hb' : Nat.ble by' 1000000 = true)
    (k : ∀ v' w1, w1.ownsRow base e (s + 1) v' m' news → w.grownBy w1 v.ownBlock → (v' = .slice none 0 0 ↔ v = .slice none 0 0 ∧ m' = 0) → Seg P n ops Q rest ((d, v') :: fr) w1) :
    Seg P n ops Q (⟨some d, .call ⟨.builtin .append, #[x, y], #[U, U]⟩, T, pos, aft, g⟩ :: rest) fr w :=
  Seg.append hg hd hU hz hzs hby hsz hx hy hown hs h1 hbase (by omega) hb' (fun v' w1 h2 h3 h4 => k v' w1 (by simpa using h2) h3 h4)

/-- A fresh empty slice is one's own. -/
theorem own_empty {w : World} {base e k b : Nat} (T : TypeId) (hb : base ≤ b) (h : w.heap[b]? = some (.cells #[] T (0, 0))) (hT : T = e) : w.ownsRow base e k (.slice (some ⟨b, 0, none⟩) 0 0) 0 [] := by
  subst hT
  exact ⟨by simp, .inr ⟨b, 0, #[], rfl, hb, h, Nat.le_refl _, Nat.zero_le _, by simp, by simp⟩⟩
end
end Go.Proofs.YtahpiaaffeiadaaGreatDoor
