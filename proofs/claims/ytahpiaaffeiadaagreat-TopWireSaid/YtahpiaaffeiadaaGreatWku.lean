/- Rules: regions that draw their order, in general: what reads is taken first where it may come up; what makes memory stands alone; a chain at the end may write. -/
import Derived.Test.YtahpiaaffeiadaaGreatWki
import Derived.OrdersHeld
namespace Go.Proofs.YtahpiaaffeiadaaGreat
open Go Go.RowKit
section
variable {P : Program} {ops : Array Oper} {Q : Exit → Act → World → Prop} {md : Region.Mode} {S : World → Prop} {z : Nat}
/-- Whatever order is picked; S holds behind every operation ahead of number z; from z on nothing more is taken first. -/
def wpAnyG (P : Program) (md : Region.Mode) (ops : Array Oper) (Q : Exit → Act → World → Prop) (S : World → Prop) (z : Nat) : Nat → Array Bool → Act → World → Prop
  | 0, listed, a, w => Region.ready md ops listed = [] ∧ Q .normal a w
  | fuel + 1, listed, a, w =>
    (Region.ready md ops listed = [] → Q .normal a w) ∧
    ∀ i ∈ Region.ready md ops listed, wpOp P ops Q i (fun a' w' => if i < z then S w' ∧ wpAnyG P md ops Q S z fuel (listed.setIfInBounds i true) a' w' else wpAny P md ops Q fuel (listed.setIfInBounds i true) a' w') a w
theorem wpAny_of_G : ∀ (fuel : Nat) (listed : Array Bool) (a : Act) (w : World), wpAnyG P md ops Q S z fuel listed a w → wpAny P md ops Q fuel listed a w
  | 0, _, _, _, h => h
  | fuel + 1, _, _, _, h => ⟨h.1, fun i hi => wpOp_mono (fun a' w' h' => by
      by_cases hz : i < z
      · rw [if_pos hz] at h'; exact wpAny_of_G fuel _ a' w' h'.2
      · rw [if_neg hz] at h'; exact h') (h.2 i hi)⟩
theorem wpAnyG_mono {S' : World → Prop} (hS : ∀ w, S' w → S w) : ∀ (fuel : Nat) (listed : Array Bool) (a : Act) (w : World), wpAnyG P md ops Q S' z fuel listed a w → wpAnyG P md ops Q S z fuel listed a w
  | 0, _, _, _, h => h
  | fuel + 1, _, _, _, h => ⟨h.1, fun i hi => wpOp_mono (fun a' w' h' => by
      by_cases hz : i < z
      · rw [if_pos hz] at h' ⊢; exact ⟨hS _ h'.1, wpAnyG_mono hS fuel _ a' w' h'.2⟩
      · rw [if_neg hz] at h' ⊢; exact h') (h.2 i hi)⟩
/-- All from number z on wait for number i. -/
def tailWaits (md : Region.Mode) (ops : Array Oper) (z i : Nat) : Bool := (List.range ops.size).all fun t => decide (t < z) || Region.waitsFor md ops t i
theorem wpAnyG_first {i : Nat} {oi : Oper} {v : Value} (hi : ops[i]? = some oi) (hz : i < z) (htail : tailWaits md ops z i = true) (hsel : ∀ (j : Nat) (o : Oper) cs b, ops[j]? = some o → o.op ≠ .select cs b)
    (hQ : ∀ c a w, Q (.panic c) (a.put oi.dst v) w → Q (.panic c) a w) :
    ∀ (fuel : Nat) (listed : Array Bool) (a : Act) (w : World),
      (∀ j oj, ops[j]? = some oj → j ≠ i → listed.getD j true = false → (∀ e ∈ oj.after, Region.binds md e = true → e.on ≠ i) → oi.apart ops oj = true) →
      i ∈ Region.ready md ops listed → YieldsIf P ops S oi v a → S w →
      wpAnyG P md ops Q S z fuel (listed.setIfInBounds i true) (a.put oi.dst v) w → wpAnyG P md ops Q S z (fuel + 1) listed a w := by
  intro fuel
  induction fuel with
  | zero =>
    intro listed a w _ hr hy hS H
    refine ⟨fun h => (by rw [h] at hr; cases hr), fun j hj => ?_⟩
    by_cases hji : j = i
    · subst hji; exact hy.wpOp hi hS (by rw [if_pos hz]; exact ⟨hS, H⟩)
    · have := ready_mono hj hji
      rw [H.1] at this
      cases this
  | succ fuel ih =>
    intro listed a w hfree hr hy hS H
    refine ⟨fun h => (by rw [h] at hr; cases hr), fun j hj => ?_⟩
    by_cases hji : j = i
    · subst hji; exact hy.wpOp hi hS (by rw [if_pos hz]; exact ⟨hS, H⟩)
    · have h1 := H.2 j (ready_mono hj hji)
      obtain ⟨hjun, oj, hoj, hall⟩ := mem_ready.1 hj
      have hnot : ∀ e ∈ oj.after, Region.binds md e = true → e.on ≠ i := fun e he hb heq => by
        have h1 := hall e he hb
        have h0 := (mem_ready.1 hr).1
        rw [heq] at h1
        rcases Nat.lt_or_ge i listed.size with h' | h'
        · simp [h'] at h0 h1; rw [h0] at h1; cases h1
        · simp [Array.getElem?_eq_none h'] at h1
      have hjz : j < z := by
        rcases Nat.lt_or_ge j z with h' | h'
        · exact h'
        · have hjs : j < ops.size := (Array.getElem?_eq_some_iff.1 hoj).1
          have := List.all_eq_true.1 htail j (List.mem_range.2 hjs)
          simp only [Bool.or_eq_true, decide_eq_true_eq] at this
          rcases this with h2 | h2
          · omega
          · obtain ⟨oj', ho', e, he, hb, hon⟩ := Region.waitsFor_spec h2
            have : oj' = oj := Option.some.inj (ho'.symm.trans hoj)
            subst this
            exact absurd hon (hnot e he hb)
      simp only [if_pos hjz] at h1 ⊢
      have h2 := wpOp_putIf hoj (hfree j oj hoj hji hjun hnot) (fun cs b => hsel i oi cs b hi) (fun cs b => hsel j oj cs b hoj) hQ hy h1
      have hfree' : ∀ k ok, ops[k]? = some ok → k ≠ i → (listed.setIfInBounds j true).getD k true = false →
          (∀ e ∈ ok.after, Region.binds md e = true → e.on ≠ i) → oi.apart ops ok = true := fun k ok hk hki hun hno => by
        refine hfree k ok hk hki ?_ hno
        by_cases hjk : j = k
        · subst hjk; exact hjun
        · rw [getD_set_ne true hjk] at hun; exact hun
      refine wpOp_mono (fun a' w' h3 => ⟨h3.2.1, ih (listed.setIfInBounds j true) a' w' hfree' (ready_mono hr (Ne.symm hji)) h3.1 h3.2.1 ?_⟩) h2
      rw [Array.setIfInBounds_comm _ _ hji]
      exact h3.2.2
end
/-- What is left of a region, from a world w on: what comes ahead of number z only adds to w. -/
structure SegG (P : Program) (n : Fm) (ops : Array Oper) (Q : Exit → Act → World → Prop) (z fuel : Nat) (listed : Array Bool) (fr : Fr) (w : World) : Prop where
  out : ∀ a, Fr.Of fr n a → wpAnyG P .any ops (NoPanic Q) (Ext w) z fuel listed a w
/-- Behind a single operation of such a region. -/
def GPost (P : Program) (ops : Array Oper) (Q : Exit → Act → World → Prop) (z fuel : Nat) (listed : Array Bool) (i : Nat) (w : World) : Exit → Act → World → Prop := fun e a' w' =>
  e = .normal ∧ if i < z then Ext w w' ∧ wpAnyG P .any ops (NoPanic Q) (Ext w') z fuel listed a' w' else wpAny P .any ops (NoPanic Q) fuel listed a' w'
def APost (P : Program) (ops : Array Oper) (Q : Exit → Act → World → Prop) (fuel : Nat) (listed : Array Bool) : Exit → Act → World → Prop := fun e a' w' =>
  e = .normal ∧ wpAny P .any ops (NoPanic Q) fuel listed a' w'
section
variable {P : Program} {n : Fm} {ops : Array Oper} {Q : Exit → Act → World → Prop} {z fuel : Nat} {listed : Array Bool} {fr : Fr} {w : World}
theorem Cd.held (z : Nat) {id : Nat} {l : List Oper} (hm : P.follows .mixedOrders = true) (h : ∀ w1, Ext w w1 → SegG P n l.toArray Q z l.length (Array.replicate l.length false) fr w1) : Cd P n Q (.region id l.toArray true) fr w := .mk fun _ ha =>
  wp_region_noPanic (wp_region_any hm (wpAny_of_G _ _ _ _ (by simpa using (h w.drew (Ext.drew w)).out _ ha)))
theorem SegG.take (i : Nat) {d : Nat} {op : Op} {T : TypeId} {pos : String} {aft : Array Edge} {g : Option (Nat × Bool)} {v : Value}
    (hi : ops[i]? = some ⟨some d, op, T, pos, aft, g⟩) (hs : Region.noSelect ops = true) (hf : Region.free .any ops listed i = true) (hr : (Region.ready .any ops listed).contains i = true) (hz : Nat.blt i z = true) (ht : tailWaits .any ops z i = true)
    (hg : gd ops fr g = some true) (hd : Nat.blt d n.n = true) (hy : ∀ w', Ext w w' → Yd P n op T fr w' v w')
    (k : SegG P n ops Q z fuel (listed.setIfInBounds i true) ((d, v) :: fr) w) : SegG P n ops Q z (fuel + 1) listed fr w := .mk fun a ha =>
  wpAnyG_first hi (Nat.le_of_ble_eq_true hz) ht (Region.noSelect_spec hs) (fun _ _ _ h => h) fuel listed a w (Region.free_spec hi hf) (by simpa using hr)
    (.inl ⟨gd_wanted ha (o := ⟨some d, op, T, pos, aft, g⟩) hg, fun w' hw' => (hy w' hw').out a ha _ _ _ _⟩) (Ext.refl w) (k.out _ (ha.put hd _))
theorem SegG.skip (i : Nat) {d : Nat} {op : Op} {T : TypeId} {pos : String} {aft : Array Edge} {g : Option (Nat × Bool)}
    (hi : ops[i]? = some ⟨some d, op, T, pos, aft, g⟩) (hs : Region.noSelect ops = true) (hf : Region.free .any ops listed i = true) (hr : (Region.ready .any ops listed).contains i = true) (hz : Nat.blt i z = true) (ht : tailWaits .any ops z i = true)
    (hg : gd ops fr g = some false) (hd : Nat.blt d n.n = true)
    (k : SegG P n ops Q z fuel (listed.setIfInBounds i true) ((d, undef) :: fr) w) : SegG P n ops Q z (fuel + 1) listed fr w := .mk fun a ha =>
  wpAnyG_first hi (Nat.le_of_ble_eq_true hz) ht (Region.noSelect_spec hs) (fun _ _ _ h => h) fuel listed a w (Region.free_spec hi hf) (by simpa using hr)
    (.inr ⟨gd_wanted ha (o := ⟨some d, op, T, pos, aft, g⟩) hg, rfl⟩) (Ext.refl w) (k.out _ (ha.put hd _))
/-- A post that no way out but the normal one meets serves for any. -/
theorem operWp_normal {R Q' : Exit → Act → World → Prop} {K : Act → World → Prop} {o : Oper} {a : Act} {w : World} (hR : ∀ e a w, R e a w → e = .normal) (hh : o.wp P a w K R) : o.wp P a w K Q' := by
  unfold Oper.wp at *
  generalize (execOp a.eval o).run P w = r at *
  have hlet : LetsOut R → False := fun ⟨a', w', h⟩ => by
    have := hR _ _ _ h
    cases this
  cases r with
  | ok n w' =>
    cases n <;> simp only [Oper.upon] at hh ⊢ <;>
      first
        | exact hh
        | exact Calls.mono hh (fun e w'' he => by
            cases e with
            | returned v => exact he
            | panicked c => exact absurd (hR _ _ _ he) (by simp)
            | outgrown => exact (hlet he).elim)
  | halt x w' =>
    cases x <;> simp only [Oper.upon] at hh ⊢ <;> first | exact hh | exact absurd (hR _ _ _ hh) (by simp)
theorem wpOp_of_seg {R : Exit → Act → World → Prop} {K : Act → World → Prop} {i : Nat} {o : Oper} (hi : ops[i]? = some o) (hR : ∀ e a w, R e a w → e = .normal ∧ K a w) (h : Seg P n ops R [o] fr w) {a : Act} (ha : Fr.Of fr n a) : wpOp P ops (NoPanic Q) i K a w := by
  have h1 := h.out a ha
  unfold wpOp
  simp only [hi]
  unfold wpList at h1
  split at h1
  · rename_i hw
    simp only [hw, if_true]
    left
    rcases h1 with h1 | ⟨_, a', w', h2⟩
    · exact operWp_normal (fun e a w h => (hR e a w h).1) (Oper.wp_mono (fun a w (h : R .normal a w) => (hR _ _ _ h).2) h1)
    · exact absurd (hR _ _ _ h2).1 (by simp)
  · rename_i hw
    simp only [hw]
    exact (hR _ _ _ h1).2
theorem SegG.oneSeg (i : Nat) {o : Oper} (hi : ops[i]? = some o) (hr : Region.ready .any ops listed = [i]) (h : Seg P n ops (GPost P ops Q z fuel (listed.setIfInBounds i true) i w) [o] fr w) : SegG P n ops Q z (fuel + 1) listed fr w := .mk fun a ha => by
  refine ⟨fun h0 => (by rw [h0] at hr; cases hr), fun j hj => ?_⟩
  rw [hr] at hj
  obtain rfl : j = i := by simpa using hj
  refine wpOp_of_seg hi (fun e a' w' hh => ⟨hh.1, ?_⟩) h ha
  have h2 := hh.2
  by_cases hz : j < z
  · rw [if_pos hz] at h2 ⊢
    exact ⟨h2.1, wpAnyG_mono (fun w'' h3 => h2.1.trans h3) _ _ _ _ h2.2⟩
  · rw [if_neg hz] at h2 ⊢; exact h2
/-- Back in the region, behind an operation that only added. -/
theorem SegG.back {i : Nat} {w' : World} (hz : Nat.blt i z = true) (hE : Ext w w') (h : SegG P n ops Q z fuel listed fr w') : Seg P n ops (GPost P ops Q z fuel listed i w) [] fr w' :=
  Seg.nil (.mk fun a ha => ⟨rfl, by rw [if_pos (show i < z from Nat.le_of_ble_eq_true hz)]; exact ⟨hE, h.out a ha⟩⟩)
/-- .. behind the first one of the end. -/
theorem SegG.end_ {i : Nat} {w' : World} (hz : Nat.ble z i = true) (h : SegA P n ops Q fuel listed fr w') : Seg P n ops (GPost P ops Q z fuel listed i w) [] fr w' :=
  Seg.nil (.mk fun a ha => ⟨rfl, by rw [if_neg (show ¬ i < z from Nat.not_lt.2 (Nat.le_of_ble_eq_true hz))]; exact h.out a ha⟩)
theorem SegG.done (hr : Region.ready .any ops listed = []) (h : At n Q .normal fr w) : SegG P n ops Q z fuel listed fr w := .mk fun a ha => by
  cases fuel with
  | zero => exact ⟨hr, h.out a ha⟩
  | succ f => exact ⟨fun _ => h.out a ha, by rw [hr]; simp⟩
theorem SegA.oneSeg (i : Nat) {o : Oper} (hi : ops[i]? = some o) (hr : Region.ready .any ops listed = [i]) (h : Seg P n ops (APost P ops Q fuel (listed.setIfInBounds i true)) [o] fr w) : SegA P n ops Q (fuel + 1) listed fr w := .mk fun a ha => by
  refine ⟨fun h0 => (by rw [h0] at hr; cases hr), fun j hj => ?_⟩
  rw [hr] at hj
  obtain rfl : j = i := by simpa using hj
  exact wpOp_of_seg hi (fun e a' w' hh => hh) h ha
theorem SegA.back (h : SegA P n ops Q fuel listed fr w) : Seg P n ops (APost P ops Q fuel listed) [] fr w :=
  Seg.nil (.mk fun a ha => ⟨rfl, h.out a ha⟩)
/-- A guard that is not decided: both ways are walked. -/
theorem SegG.gsplit (i : Nat) {d : Option Nat} {op : Op} {T : TypeId} {pos : String} {aft : Array Edge} {j : Nat} {b : Bool} {k : Nat} {t : Bool} (_hi : ops[i]? = some ⟨d, op, T, pos, aft, some (j, b)⟩) (_hj : gdst ops j = some k) (hk : Fr.look fr k = some (.bool t))
    (ht : t = true → SegG P n ops Q z fuel listed ((k, .bool true) :: fr) w) (hf : t = false → SegG P n ops Q z fuel listed ((k, .bool false) :: fr) w) : SegG P n ops Q z fuel listed fr w := .mk fun a ha => by
  cases t
  · exact (hf rfl).out a (ha.again hk)
  · exact (ht rfl).out a (ha.again hk)
theorem SegG.gsplitp (i : Nat) {d : Option Nat} {op : Op} {T : TypeId} {pos : String} {aft : Array Edge} {j : Nat} {b : Bool} {k : Nat} {p : Prop} [Decidable p] (hi : ops[i]? = some ⟨d, op, T, pos, aft, some (j, b)⟩) (hj : gdst ops j = some k) (hk : Fr.look fr k = some (.bool (decide p)))
    (ht : p → SegG P n ops Q z fuel listed ((k, .bool true) :: fr) w) (hf : ¬ p → SegG P n ops Q z fuel listed ((k, .bool false) :: fr) w) : SegG P n ops Q z fuel listed fr w :=
  SegG.gsplit i hi hj hk (fun h => ht (of_decide_eq_true h)) (fun h => hf (of_decide_eq_false h))
end
end Go.Proofs.YtahpiaaffeiadaaGreat
