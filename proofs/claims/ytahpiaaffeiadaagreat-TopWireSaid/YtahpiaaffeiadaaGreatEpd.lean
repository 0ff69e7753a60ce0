/- Letters, digits and hyphens read back as points: figures, numbers, basic points. -/
import Derived.Test.YtahpiaaffeiadaaGreatEpv
import Derived.Test.YtahpiaaffeiadaaGreatEsh
import Derived.Laws.CopyRow
import Derived.Laws.IdiomCopy
namespace Go.Proofs.YtahpiaaffeiadaaGreat
open Go Go.RowKit
def figN (c : Nat) : Nat := if 97 ≤ c ∧ c ≤ 122 then c - 97 else if 65 ≤ c ∧ c ≤ 90 then c - 65 else if 48 ≤ c ∧ c ≤ 57 then c - 22 else 0
def figK (c : Nat) : Bool := decide (97 ≤ c ∧ c ≤ 122) || decide (65 ≤ c ∧ c ≤ 90) || decide (48 ≤ c ∧ c ≤ 57)
theorem fig_lt (c : Nat) : figN c < 36 := by unfold figN; (repeat' split) <;> omega
structure NuS where
  s : List UInt8
  sum : Nat
  wt : Nat
  k : Nat
theorem own_down {w : World} {base base' e k m : Nat} {v : Value} {cs : List Value} (h : w.ownsRow base e k v m cs) (hb : base' ≤ base) : w.ownsRow base' e k v m cs :=
  ⟨h.1, h.2.imp id fun ⟨g, cap, cur, a, b, c⟩ => ⟨g, cap, cur, a, Nat.le_trans hb b, c⟩⟩
structure BaS where
  j : Nat
  ps : List Nat
  v : Value
theorem own_row {w : World} {base e k m : Nat} {v : Value} {cs : List Value} (h : w.ownsRow base e k v m cs) (hm : 1 ≤ m) :
    ∃ (g cap : Nat) (cur : List Value), v = .slice (some ⟨g, 0, none⟩) m cap ∧ base ≤ g ∧ w.heap[g]? = some (.cells cur.toArray e (0, 0)) ∧ m ≤ cap ∧ cap ≤ maxLen ∧ cur.length = cap * k ∧ cur.take (m * k) = cs := by
  rcases h.2 with ⟨_, h0⟩ | ⟨g, cap, cur, a, b, c, d, e', f, i⟩
  · omega
  · exact ⟨g, cap, cur.toList, a, b, by simpa using c, d, e', by simpa using f, i⟩
section
variable {P : Program} [Tys P] {n : Fm} {fr : Fr} {w : World} {x y : Operand} {U T : TypeId}
theorem addr_from (b o j : Nat) : Addr.add ⟨b, o, none⟩ j = ⟨b, o + j, none⟩ := by unfold Addr.add; split <;> simp_all
/-- 'copy' of a part of a row of one's own onto another part of it. -/
theorem run_copy_in {e g lo lo' m cap by' : Nat} {cur : List Value} {t : TypeId} (hU : slOf P U = some (e, 1)) (hby : byOf P e = some by') (hsz : szOf P e = some 1) (hB : w.heap[g]? = some (.cells cur.toArray t (0, 0))) (h1 : lo ≤ m) (h2 : lo' ≤ m) (h3 : m ≤ cap) (hl : cur.length = cap)
    (hc : ∀ c ∈ cur.take m, c.oneCell' = true) : ∃ (w1 : World), (Builtin.copy_ #[U, U] T #[sliced (some ⟨g, 0, none⟩) lo m cap 1, sliced (some ⟨g, 0, none⟩) lo' m cap 1]).run P w = .ok (.int .i64 (Nat.min (m - lo') (m - lo) : Nat)) w1 ∧ Wr g w w1 ∧
      w1.heap[g]? = some (.cells (cur.take lo ++ (((cur.take m).drop lo').take (m - lo) ++ cur.drop (lo + Nat.min (m - lo') (m - lo)))).toArray t (0, 0)) := by
  obtain ⟨hund, _⟩ := und_sl hU
  obtain ⟨i, hi, _, his⟩ := run_inf hby hsz
  have hinf : (P.info? e).map (·.size) = some 1 := by rw [info_of_run hi]; simp [his]
  have hcl : (((cur.take m).drop lo').take (m - lo)).length = Nat.min (m - lo') (m - lo) := by
    rw [List.length_take, List.length_drop, List.length_take, hl]
    show min (m - lo) (min m cap - lo') = min (m - lo') (m - lo)
    omega
  by_cases h0 : Nat.min (m - lo') (m - lo) = 0
  · refine ⟨w, ?_, (Ext.refl w).wr g, ?_⟩
    · rw [h0]
      exact run_copy_none w U U T e _ _ _ _ _ _ hund hinf h0
    · have : ((cur.take m).drop lo').take (m - lo) = [] := List.eq_nil_of_length_eq_zero (by rw [hcl, h0])
      rw [this, h0, List.nil_append, Nat.add_zero, List.take_append_drop]
      exact hB
  · have hm1 : min (m - lo') (m - lo) ≠ 0 := h0
    have e1 : sliced (some ⟨g, 0, none⟩) lo m cap 1 = .slice (some ⟨g, lo, none⟩) (m - lo) (cap - lo) := by
      unfold sliced
      rw [if_neg (by omega)]
      show Value.slice (some (Addr.add ⟨g, 0, none⟩ _)) _ _ = _
      rw [addr_from]; simp
    have e2 : sliced (some ⟨g, 0, none⟩) lo' m cap 1 = .slice (some ⟨g, lo', none⟩) (m - lo') (cap - lo') := by
      unfold sliced
      rw [if_neg (by omega)]
      show Value.slice (some (Addr.add ⟨g, 0, none⟩ _)) _ _ = _
      rw [addr_from]; simp
    rw [e1, e2]
    have hrun := run_copy_row (P := P) w U U T e g lo (m - lo) (cap - lo) ⟨g, lo', none⟩ (m - lo') (cap - lo') cur.toArray t (((cur.take m).drop lo').take (m - lo)) hund hinf hB hcl (fun j v hj => by
      have hj1 : j < Nat.min (m - lo') (m - lo) := by rw [← hcl]; exact (List.getElem?_eq_some_iff.1 hj).1
      have hj2 : j < min (m - lo') (m - lo) := hj1
      rw [List.getElem?_take, if_pos (by omega), List.getElem?_drop, List.getElem?_take, if_pos (by omega)] at hj
      have hB2 : Bx w g cur := ⟨t, hB⟩
      have := hB2.row (lo' + j) v hj
      rw [addr_from] at this ⊢
      rw [Nat.zero_add] at this; exact this) (by rw [hcl]; simp only [List.size_toArray, hl]; show lo + min (m - lo') (m - lo) ≤ cap; omega)
      (fun v hv => hc v (List.mem_of_mem_drop (List.mem_of_mem_take hv)))
    rw [hcl] at hrun
    refine ⟨_, hrun, ⟨rfl, rfl, rfl, by simp, fun k _ hne => setRow_other w g k _ (fun e => hne (by rw [e]))⟩, ?_⟩
    rw [setRow_heap w g _ _ t _ hB]
    simp
theorem own_pos {base e g m cap : Nat} {X : List Value} (h : w.ownsRow base e 1 (.slice (some ⟨g, 0, none⟩) m cap) m X) : ∃ cur : List Value, base ≤ g ∧ w.heap[g]? = some (.cells cur.toArray e (0, 0)) ∧ m ≤ cap ∧ cap ≤ maxLen ∧ cur.length = cap ∧ cur.take m = X := by
  rcases h.2 with ⟨h0, _⟩ | ⟨g', cap', cur, a, b, c, d, e', f, i⟩
  · cases h0
  · cases a
    exact ⟨cur.toList, b, by simpa using c, d, e', by simpa using f, by simpa using i⟩
theorem own_mk {base e g m cap : Nat} {X cur : List Value} (h1 : base ≤ g) (h2 : w.heap[g]? = some (.cells cur.toArray e (0, 0))) (h3 : m ≤ cap) (h4 : cap ≤ maxLen) (h5 : cur.length = cap) (h6 : cur.take m = X) : w.ownsRow base e 1 (.slice (some ⟨g, 0, none⟩) m cap) m X :=
  ⟨by rw [← h6, List.length_take]; omega, .inr ⟨g, cap, cur.toArray, rfl, h1, h2, h3, h4, by simpa using h5, by simpa using h6⟩⟩
/-- .. within a slice of one's own. -/
theorem copy_own {base e g lo lo' m cap by' : Nat} {X : List Value} (hU : slOf P U = some (e, 1)) (hby : byOf P e = some by') (hsz : szOf P e = some 1) (ho : w.ownsRow base e 1 (.slice (some ⟨g, 0, none⟩) m cap) m X) (h1 : lo ≤ m) (h2 : lo' ≤ lo) (hc : ∀ c ∈ X, c.oneCell' = true) :
    ∃ w1, (Builtin.copy_ #[U, U] T #[sliced (some ⟨g, 0, none⟩) lo m cap 1, sliced (some ⟨g, 0, none⟩) lo' m cap 1]).run P w = .ok (.int .i64 (m - lo : Nat)) w1 ∧ Wr g w w1 ∧ w1.ownsRow base e 1 (.slice (some ⟨g, 0, none⟩) m cap) m (X.take lo ++ (X.drop lo').take (m - lo)) := by
  obtain ⟨cur, a1, a2, a3, a4, a5, a6⟩ := own_pos ho
  obtain ⟨w1, b1, b2, b3⟩ := run_copy_in (T := T) hU hby hsz a2 h1 (Nat.le_trans h2 h1) a3 a5 (by rw [a6]; exact hc)
  have hm : Nat.min (m - lo') (m - lo) = m - lo := Nat.min_eq_right (by omega)
  rw [hm] at b1 b3
  have hXl : X.length = m := by rw [← a6, List.length_take]; omega
  have c1 : cur.take lo = X.take lo := by rw [← a6, List.take_take, Nat.min_eq_left h1]
  rw [a6, c1] at b3
  have cl : (X.take lo ++ (X.drop lo').take (m - lo)).length = m := by
    rw [List.length_append, List.length_take, List.length_take, List.length_drop]; omega
  refine ⟨w1, b1, b2, own_mk a1 b3 a3 a4 ?_ ?_⟩
  · rw [← List.append_assoc, List.length_append, cl, List.length_drop]; omega
  · rw [← List.append_assoc, List.take_append_of_le_length (by omega), List.take_of_length_le (by omega)]
/-- A store into a slice of one's own. -/
theorem Seg.storeOwn {ops : Array Oper} {Q : Exit → Act → World → Prop} {pos : String} {aft : Array Edge} {gg : Option (Nat × Bool)} {rest : List Oper} {base e g k m cap : Nat} {X : List Value} {v : Value}
    (hg : gd ops fr gg = some true) (hU : szOf P U = some 1) (hx : Fr.ev fr x = some (.pointer (some (Addr.add ⟨g, 0, none⟩ k)))) (hy : Fr.ev fr y = some v) (hv : v.oneCell' = true) (ho : w.ownsRow base e 1 (.slice (some ⟨g, 0, none⟩) m cap) m X) (hk : k < m)
    (kk : ∀ w1, Wr g w w1 → w1.ownsRow base e 1 (.slice (some ⟨g, 0, none⟩) m cap) m (X.set k v) → Seg P n ops Q rest fr w1) : Seg P n ops Q (⟨none, .store U x y, T, pos, aft, gg⟩ :: rest) fr w := by
  obtain ⟨cur, a1, a2, a3, a4, a5, a6⟩ := own_pos ho
  have hB : Bx w g cur := ⟨e, a2⟩
  have hkc : k < cur.length := by omega
  refine Seg.step0 (w' := w.setCell ⟨g, k, none⟩ v) hg (.mk fun a ha d pos aft g => by
    simp [execOp, Instr.storeAt, Instr.sureAddr, ha.ev hx, ha.ev hy, run_store1 hU hv hB hkc]) (kk _ (hB.set k v).2 (own_mk (cur := cur.set k v) a1 ?_ a3 a4 (by rw [List.length_set]; exact a5) ?_))
  · rw [heap_setCell_same' w g k cur.toArray e (0, 0) v a2]
    simp
  · rw [List.take_set, a6]
omit [Tys P] in
theorem Yd.of_run {U' : TypeId} {u v r : Value} {w1 : World} (hx : Fr.ev fr x = some u) (hy : Fr.ev fr y = some v) (h : (Builtin.copy_ #[U, U'] T #[u, v]).run P w = .ok r w1) : Yd P n (.call ⟨.builtin .copy, #[x, y], #[U, U']⟩) T fr w r w1 :=
  .val fun a ha d pos aft g => by
    simp [execOp, resolve, invoke, builtin, ha.ev hx, ha.ev hy, h]
end
structure DeS where
  s : List UInt8
  l : List Nat
  v : Value
  n : Nat
  at' : Nat
  bias : Nat
  first : Bool
