/- Append, with the place of the new slice told. -/
import Derived.Test.YtccppgpedlfjdaaWkr
import Derived.Maps.AppendAt
namespace Go.Proofs.Ytccppgpedlfjdaa
open Go Go.RowKit
section
variable {P : Program} [Tys P] {n : Nat} {ops : Array Oper} {Q : Exit → Act → World → Prop} {fr : Fr} {w : World} {T : TypeId}
theorem run_appAt {U e s by' base m m' : Nat} {z v u : Value} {xs news : List Value} (hU : slOf P U = some (e, s + 1)) (hz : zerOf P e = some z) (hzs : Nat.beq z.cells.size (s + 1) = true) (hby : byOf P e = some by') (hsz : szOf P e = some (s + 1))
    (hown : w.ownsRow base e (s + 1) v m xs) (hs : Sl w (s + 1) u m' news) (h1 : ∀ c ∈ news, c.oneCell' = true) (hbase : base ≤ w.heap.size) (hb1 : m + m' ≤ maxLen) (hb2 : (m + m') * by' ≤ 140737488355328) :
    ∃ v' w', (Builtin.append_ #[U, U] T #[v, u]).run P w = .ok v' w' ∧ w'.ownsRow base e (s + 1) v' (m + m') (xs ++ news) ∧ w.grownBy w' v.ownBlock ∧ (v'.ownBlock = v.ownBlock ∨ v'.ownBlock = some w.heap.size) := by
  obtain ⟨hund, hsize⟩ := und_sl hU
  obtain ⟨i, hi, hib, his⟩ := run_inf hby hsz
  have hinfo := info_of_run hi
  have hzz : i.zero = some z := by
    have := run_zero hz w
    unfold zeroValue at this
    rw [Sem.run_bind, hi] at this
    simp only [Result.andThen_ok] at this
    cases hiz : i.zero with
    | none => rw [hiz] at this; simp at this
    | some z' => rw [hiz] at this; simp at this; rw [this]
  have hzs := Nat.eq_of_beq_eq_true hzs
  obtain ⟨ao, c, rfl, hl, hr, hn⟩ := hs
  cases ao with
  | none =>
    have hm' := hn rfl
    subst hm'
    have hnil : news = [] := List.eq_nil_of_length_eq_zero (by simpa using hl)
    subst hnil
    have hrun : (Builtin.append_ #[U, U] T #[v, .slice none 0 c]).run P w = .ok v w := by
      rcases hown.2 with ⟨rfl, rfl⟩ | ⟨g, cap, cur, rfl, hbg, hg, hnc, hcm, hcs, htake⟩
      · simp [Builtin.append_, run_underlying hund, sizeOf, hi, Builtin.lenOf, Builtin.firstCells]
      · simp [Builtin.append_, run_underlying hund, sizeOf, hi, Builtin.lenOf, Builtin.firstCells, hnc, storeCells]
    exact ⟨v, w, hrun, by simpa using hown, ⟨rfl, rfl, rfl, Nat.le_refl _, fun _ _ _ => rfl⟩, .inl rfl⟩
  | some a =>
    obtain ⟨v', w', h2, h3, h4, _, h5⟩ := run_append_own_at w base U T e i z (s + 1) by' hund hinfo hzz his hib hzs (by omega) v m xs hown a m' c news hl (hr a rfl) h1 hb1 hb2 hbase
    exact ⟨v', w', h2, h3, h4, h5⟩
/-- 'append(v, u...)', v one's own; where the new one lies. -/
theorem Seg.appendAt {d U e s by' base m m' : Nat} {x y : Operand} {pos : String} {aft : Array Edge} {g : Option (Nat × Bool)} {rest : List Oper} {z v u : Value} {xs news : List Value}
    (hg : gd ops fr g = some true) (hd : Nat.blt d n = true) (hU : slOf P U = some (e, s + 1)) (hz : zerOf P e = some z) (hzs : Nat.beq z.cells.size (s + 1) = true) (hby : byOf P e = some by') (hsz : szOf P e = some (s + 1))
    (hx : Fr.ev fr x = some v) (hy : Fr.ev fr y = some u) (hown : w.ownsRow base e (s + 1) v m xs) (hs : Sl w (s + 1) u m' news) (h1 : ∀ c ∈ news, c.oneCell' = true) (hbase : base ≤ w.heap.size) (hb : m + m' ≤ 100000000) (hb' : Nat.ble by' 1000000 = true)
    (k : ∀ v' w1, w1.ownsRow base e (s + 1) v' (m + m') (xs ++ news) → w.grownBy w1 v.ownBlock → (v'.ownBlock = v.ownBlock ∨ v'.ownBlock = some w.heap.size) → Seg P n ops Q rest ((d, v') :: fr) w1) :
    Seg P n ops Q (⟨some d, .call ⟨.builtin .append, #[x, y], #[U, U]⟩, T, pos, aft, g⟩ :: rest) fr w := by
  obtain ⟨v', w1, hrun, h2, h3, h4⟩ := run_appAt (T := T) hU hz hzs hby hsz hown hs h1 hbase (by unfold maxLen; omega) (by
    have h5 : (m + m') * by' ≤ 100000000 * 1000000 := Nat.mul_le_mul hb (Nat.le_of_ble_eq_true hb')
    omega)
  refine Seg.step hg hd (.val fun a ha d pos aft g => ?_) (k v' w1 h2 h3 h4)
  simp [execOp, resolve, invoke, builtin, ha.ev hx, ha.ev hy, hrun]
theorem SegI.appendAt {ro : Option Nat} {ds : List Deferred} {d U e s by' base m m' : Nat} {x y : Operand} {pos : String} {aft : Array Edge} {g : Option (Nat × Bool)} {rest : List Oper} {z v u : Value} {xs news : List Value}
    (hg : gd ops fr g = some true) (hd : Nat.blt d n = true) (hU : slOf P U = some (e, s + 1)) (hz : zerOf P e = some z) (hzs : Nat.beq z.cells.size (s + 1) = true) (hby : byOf P e = some by') (hsz : szOf P e = some (s + 1))
    (hx : Fr.ev fr x = some v) (hy : Fr.ev fr y = some u) (hown : w.ownsRow base e (s + 1) v m xs) (hs : Sl w (s + 1) u m' news) (h1 : ∀ c ∈ news, c.oneCell' = true) (hbase : base ≤ w.heap.size) (hb : m + m' ≤ 100000000) (hb' : Nat.ble by' 1000000 = true)
    (k : ∀ v' w1, w1.ownsRow base e (s + 1) v' (m + m') (xs ++ news) → w.grownBy w1 v.ownBlock → (v'.ownBlock = v.ownBlock ∨ v'.ownBlock = some w.heap.size) → SegI ro ds P n ops Q rest ((d, v') :: fr) w1) :
    SegI ro ds P n ops Q (⟨some d, .call ⟨.builtin .append, #[x, y], #[U, U]⟩, T, pos, aft, g⟩ :: rest) fr w := by
  obtain ⟨v', w1, hrun, h2, h3, h4⟩ := run_appAt (T := T) hU hz hzs hby hsz hown hs h1 hbase (by unfold maxLen; omega) (by
    have h5 : (m + m') * by' ≤ 100000000 * 1000000 := Nat.mul_le_mul hb (Nat.le_of_ble_eq_true hb')
    omega)
  refine SegI.step rfl hg hd (.val fun a ha d pos aft g => ?_) (k v' w1 h2 h3 h4)
  simp [execOp, resolve, invoke, builtin, ha.ev hx, ha.ev hy, hrun]
end
/-- The block of a slice of one's own, as a set. -/
def ownP (v : Value) : Nat → Prop := fun r => v.ownBlock = some r
/-- Grown by one's own row: only that block was written. -/
theorem Kept.grown {w w1 : World} {v v' : Value} (h : w.grownBy w1 v.ownBlock) (h2 : v'.ownBlock = v.ownBlock ∨ v'.ownBlock = some w.heap.size) : Kept (ownP v) (ownP v') w w1 :=
  ⟨h.size, fun b hb hn => h.block b hb (fun e => hn e.symm), fun b hb => by
    unfold ownP at *
    rcases h2 with h2 | h2
    · exact .inl (h2 ▸ hb)
    · rw [h2] at hb; cases hb; exact .inr (Nat.le_refl _)⟩
theorem Kept.mono {p p' q q' : Nat → Prop} {w w1 : World} (h : Kept p p' w w1) (hp : ∀ r, p r → q r) (hq : ∀ r, q' r → p' r ∨ q r) : Kept q q' w w1 :=
  ⟨h.size, fun b hb hn => h.block b hb (fun e => hn (hp _ e)), fun b hb => by
    rcases hq _ hb with h1 | h1
    · rcases h.own _ h1 with h2 | h2
      · exact .inl (hp _ h2)
      · exact .inr h2
    · exact .inl h1⟩
theorem Kept.trans {p p' p'' : Nat → Prop} {w w1 w2 : World} (h : Kept p p' w w1) (k : Kept p' p'' w1 w2) : Kept p p'' w w2 :=
  ⟨Nat.le_trans h.size k.size, fun b hb hn => (k.block b (Nat.lt_of_lt_of_le hb h.size) (fun e => (h.own _ e).elim hn (fun h2 => by omega))).trans (h.block b hb hn), fun b hb => by
    rcases k.own _ hb with h1 | h1
    · exact h.own _ h1
    · exact .inr (Nat.le_trans h.size h1)⟩
theorem Kept.wr {b : Nat} {w w1 : World} (h : Wr b w w1) : Kept (fun r => r = b) (fun r => r = b) w w1 :=
  ⟨h.size, fun c hc hn => h.block c hc (by simpa using hn), fun _ h => .inl h⟩
/-! ### Plain regions in a round's frame -/
/-- What a plain region is asked in a round: to end, and then what is asked there. -/
def Nq (Q : Exit → Act → World → Prop) : Exit → Act → World → Prop := fun e a w => e = .normal ∧ Q .normal a w
theorem wpListIn_of {ro : Option Nat} {P : Program} {ops : Array Oper} {Q : Exit → Act → World → Prop} : ∀ (l : List Oper), (∀ o ∈ l, noDefer o.op = true) → ∀ (a : Act) (w : World), wpList P ops (Nq Q) l a w → wpListIn (Fw ro) 0 P ops Q l a w
  | [], _, a, w, h => h.2
  | o :: rest, hn, a, w, h => by
    have ih := wpListIn_of (ro := ro) (P := P) (ops := ops) (Q := Q) rest (fun o ho => hn o (List.mem_cons_of_mem _ ho))
    unfold wpList at h
    unfold wpListIn
    by_cases hw : Region.wanted o (yielded ops a.tmps) = true
    · rw [if_pos hw] at h ⊢
      rcases h with h | ⟨_, a', w', he, _⟩
      · refine ⟨fun _ _ => trivial, ?_⟩
        rw [Oper.semAt_eq _ _ _ (fun c => noDefer_ne (hn o List.mem_cons_self) c)]
        unfold Oper.wp at h
        generalize (execOp a.eval o).run P w = r at h
        cases r with
        | ok nx w' =>
          cases nx with
          | value v => exact ih _ _ h
          | skip => exact ih _ _ h
          | defer d => exact ih _ _ h
          | enter f args =>
            refine ⟨fun h => (by cases h), callsIn_wide.2 (Calls.mono h fun e w'' he => ?_)⟩
            cases e with
            | returned v => exact ih _ _ he
            | panicked c => exact absurd he.1 (by simp)
            | outgrown => obtain ⟨a', w', he, _⟩ := he; exact absurd he (by simp)
          | row row args =>
            refine ⟨fun h => (by cases h), fun c cs _ => ?_⟩
            obtain ⟨v, w'', hr, hs⟩ := h c cs
            exact ⟨v, w'', ih _ _ hr, stepsIn_wide.2 hs⟩
          | _ => exact h.elim
        | halt x w' =>
          cases x with
          | panic v => exact absurd h.1 (by simp)
          | _ => exact h.elim
      · exact absurd he (by simp)
    · rw [if_neg hw] at h ⊢
      exact ⟨fun _ _ => trivial, ih _ _ h⟩
theorem CdI.regionS {ro : Option Nat} {P : Program} {n : Nat} {Q : Exit → Act → World → Prop} {fr : Fr} {w : World} {id : Nat} {l : List Oper} (hn : l.all (fun o => noDefer o.op) = true) (h : Seg P n l.toArray (Nq Q) l fr w) : CdI ro [] P n Q (.region id l.toArray false) fr w := .mk fun a ha =>
  wpIn_region_lit (wpListIn_of l (fun o ho => List.all_eq_true.1 hn o ho) a w (h.out a ha.o))
theorem At.ofI {n : Nat} {Q : Exit → Act → World → Prop} {fr : Fr} {w : World} (h : AtI [] n Q .normal fr w) : At n (Nq Q) .normal fr w := .mk fun a ha => ⟨rfl, h.out a ha.d⟩
theorem AtI.thenP {ds : List Deferred} {P : Program} {n : Nat} {Q : Exit → Act → World → Prop} {fr : Fr} {w : World} {y : Code} (h : CdI none ds P n Q y fr w) : AtI ds n (Exit.then (y.wp P Q) Q) .normal fr w := .mk fun a ha => (wpIn_wide (n := 0)).1 (h.out a ha)
end Go.Proofs.Ytccppgpedlfjdaa
