/- Messages read: message.Decode. -/
import Derived.Test.YtahpiaaffeiadaaGreatEmd
namespace Go.Proofs.YtahpiaaffeiadaaGreat
open Go Go.RowKit
section
variable {P : Program} [Tys P] {n : Fm} {ops : Array Oper} {Q : Exit → Act → World → Prop} {fr : Fr} {w : World} {T : TypeId}
/-- A struct stored over a part of a block of one's own. -/
theorem Seg.storeP {U : TypeId} {x y : Operand} {pos : String} {aft : Array Edge} {g : Option (Nat × Bool)} {rest : List Oper} {b o : Nat} {cs : List Value} {a : Array Value}
    (hg : gd ops fr g = some true) (hU : szOf P U = some a.toList.length) (hx : Fr.ev fr x = some (.pointer (some (Addr.add ⟨b, 0, none⟩ o)))) (hy : Fr.ev fr y = some (.agg a)) (hB : Bx w b cs) (hl : o + a.toList.length ≤ cs.length)
    (hv : ∀ c ∈ a.toList, c.oneCell' = true)
    (kk : ∀ w1, Wr b w w1 → Bx w1 b (cs.take o ++ a.toList ++ cs.drop (o + a.toList.length)) → Seg P n ops Q rest fr w1) : Seg P n ops Q (⟨none, .store U x y, T, pos, aft, g⟩ :: rest) fr w := by
  obtain ⟨h1, h2⟩ := hB.setRow (cs.take o ++ a.toList ++ cs.drop (o + a.toList.length))
  obtain ⟨TT, hT⟩ := hB
  rw [addr_lit] at hx
  have hrun : (storeVar U ⟨b, o, none⟩ (.agg a)).run P w = .ok () (w.setRow b (cs.take o ++ a.toList ++ cs.drop (o + a.toList.length)).toArray) := by
    have := run_storeCells_at (P := P) b o TT a.toList 0 cs.toArray w hT (by simp only [List.size_toArray]; omega) hv
    unfold storeVar
    rw [Sem.run_bind, run_size hU]
    simp only [Result.andThen_ok, Value.cells]
    simpa using this
  exact Seg.step0 (w' := w.setRow b (cs.take o ++ a.toList ++ cs.drop (o + a.toList.length)).toArray) hg (.mk fun a' ha d pos aft g => by
    simp [execOp, Instr.storeAt, Instr.sureAddr, ha.ev hx, ha.ev hy, hrun]) (kk _ h2 h1)
end
/-- A question as it is read. -/
structure DQ where
  n : List (List UInt8)
  kind : Nat
  cls : Nat
/-- Questions can be read in s from place a on, to place b. -/
def QsRd (s : List UInt8) : Nat → List DQ → Nat → Prop
  | a, [], b => a = b
  | a, q :: r, b => ∃ f e, Rdn s f a a q.n e ∧ szN q.n ≤ 255 ∧ e + 4 ≤ s.length ∧ q.kind = deB ((s.drop e).take 2) ∧ q.cls = deB ((s.drop (e + 2)).take 2) ∧ QsRd s (e + 4) r b
def dqC : List Value → List DQ → List Value
  | u :: us, q :: qs => u :: .int .i64 (q.kind : Nat) :: .int .i64 (q.cls : Nat) :: dqC us qs
  | _, _ => []
theorem dqC_snoc : ∀ (us : List Value) (qs : List DQ) (u : Value) (q : DQ), us.length = qs.length → dqC (us ++ [u]) (qs ++ [q]) = dqC us qs ++ [u, .int .i64 (q.kind : Nat), .int .i64 (q.cls : Nat)]
  | [], [], _, _, _ => rfl
  | u :: us, q :: qs, v, r, h => by
    show u :: _ :: _ :: dqC (us ++ [v]) (qs ++ [r]) = _
    rw [dqC_snoc us qs v r (by simpa using h)]
    rfl
  | [], _ :: _, _, _, h => by cases h
  | _ :: _, [], _, _, h => by cases h
/-- Each name in a row of one's own. -/
def QsOwn (w : World) (base : Nat) (us : List Value) (qs : List DQ) : Prop := us.length = qs.length ∧ ∀ (j : Nat) u q, us[j]? = some u → qs[j]? = some q → OwnS w base u q.n
theorem QsOwn.ext {w w' : World} {base : Nat} {us : List Value} {qs : List DQ} (h : QsOwn w base us qs) (hE : Ext w w') : QsOwn w' base us qs := ⟨h.1, fun j u q hu hq => own_ext (h.2 j u q hu hq) hE⟩
theorem QsOwn.wr {w w' : World} {base b : Nat} {us : List Value} {qs : List DQ} (h : QsOwn w base us qs) (hW : Wr b w w') (hb : b < base) : QsOwn w' base us qs := ⟨h.1, fun j u q hu hq => own_wr (h.2 j u q hu hq) hW (own_noblk (h.2 j u q hu hq) hb)⟩
theorem QsOwn.kept {w w' : World} {base base' e k m : Nat} {v : Value} {cs : List Value} {us : List Value} {qs : List DQ} (h : QsOwn w base us qs) (ho : w.ownsRow base' e k v m cs) (hne : e ≠ 9) (hg : w.grownBy w' v.ownBlock) : QsOwn w' base us qs :=
  ⟨h.1, fun j u q hu hq => own_keep ho (h.2 j u q hu hq) hne hg⟩
theorem QsOwn.down {w : World} {base base' : Nat} {us : List Value} {qs : List DQ} (h : QsOwn w base us qs) (hb : base' ≤ base) : QsOwn w base' us qs := ⟨h.1, fun j u q hu hq => own_down (h.2 j u q hu hq) hb⟩
theorem QsOwn.snoc {w : World} {base : Nat} {us : List Value} {qs : List DQ} {u : Value} {q : DQ} (h : QsOwn w base us qs) (hu : OwnS w base u q.n) : QsOwn w base (us ++ [u]) (qs ++ [q]) := by
  refine ⟨by simp [h.1], fun j u' q' h1 h2 => ?_⟩
  by_cases hj : j < us.length
  · rw [List.getElem?_append_left hj] at h1
    rw [List.getElem?_append_left (by rw [← h.1]; exact hj)] at h2
    exact h.2 j u' q' h1 h2
  · have h1l := (List.getElem?_eq_some_iff.1 h1).1
    rw [List.length_append] at h1l
    have : j = us.length := by simp at h1l; omega
    subst this
    rw [List.getElem?_append_right (Nat.le_refl _), Nat.sub_self] at h1
    rw [List.getElem?_append_right (by rw [h.1]; exact Nat.le_refl _), h.1, Nat.sub_self] at h2
    cases h1; cases h2; exact hu
theorem mdec1_idle (x y : Value) (w : World) : CallsD Tryz.prog 30 #[x, y] .returning w fun e u' w' => e = .returned (.tuple #[]) ∧ u' = .returning ∧ w' = w := by
  refine callsD_of_wpS Tryz.func30 rfl fun c₀ cs hu => ?_
  apply wpS_seq
  apply wpS_region
  simp [wpOpsS, go_sem, recoverD, hu, Tryz.ntmps30, Exit.thenS]
  apply wpS_seq
  apply wpS_seq
  apply wpS_region
  simp [wpOpsS, go_sem, Exit.thenS]
  refine wpS_cond (t := true) (by simp [Act.eval, Array.replicate]) ?_
  simp only [if_true]
  refine wpS_of_wp (wp_ret ?_)
  cases c₀
  simp_all [bodyPostS, results, Tryz.results30, Exit.thenS]
/-- Questions' cells in a row of one's own. -/
def OwnQ (w : World) (base : Nat) (v : Value) (m : Nat) (cs : List Value) : Prop := w.ownsRow base 49 3 v m cs
theorem OwnQ.ext {w w' : World} {base : Nat} {v : Value} {m : Nat} {cs : List Value} (h : OwnQ w base v m cs) (hE : Ext w w') : OwnQ w' base v m cs := own_ext h hE
theorem OwnQ.wr {w w' : World} {base b : Nat} {v : Value} {m : Nat} {cs : List Value} (h : OwnQ w base v m cs) (hW : Wr b w w') (hb : b < base) : OwnQ w' base v m cs := own_wr h hW (own_noblk h hb)
end Go.Proofs.YtahpiaaffeiadaaGreat
