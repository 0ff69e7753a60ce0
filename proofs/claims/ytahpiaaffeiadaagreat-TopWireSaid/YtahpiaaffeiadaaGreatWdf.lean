/- Rules: functions that defer a call. Rules: regions that draw their order, in which what is done keeps a class of worlds: the reads are taken first. -/
import Derived.Test.YtahpiaaffeiadaaGreatWka
import Derived.Recover
import Derived.Test.YtahpiaaffeiadaaGreatWko
namespace Go.Proofs.YtahpiaaffeiadaaGreat
open Go Go.RowKit
/-- What the end of a function that defers is asked. -/
def DoneD (P : Program) (fn : Func) (R : Value → World → Prop) : Exit → Act → World → Prop := bodyPostD P fn fun e w' => ∃ v, e = .returned v ∧ R v w'
section
variable {P : Program} {n : Fm} {ops : Array Oper} {Q : Exit → Act → World → Prop} {fr : Fr} {w : World}
theorem Ret.bodyD {m : Nat} {f : FuncId} {fn : Func} {c : Code} {args : List Value} {R : Value → World → Prop} (hf : P.funcs[f]? = some fn) (hb : fn.body = some c) (hn : fn.ntmps = m) (hle : Nat.ble args.length m = true)
    (h : Cd P ⟨m, []⟩ (DoneD P fn R) c (frArgs 0 args) w) : Ret P f args.toArray w R := by
  refine calls_of_wp_defers hf hb (h.out _ ⟨rfl, ?_, ?_⟩)
  · have := Nat.le_of_ble_eq_true hle
    simp [hn]; omega
  · intro k v hk
    obtain ⟨_, h2⟩ := frArgs_mem args 0 (k, v) (Fr.mem_of_look hk)
    left
    have hlt : k < args.length := by
      rcases Nat.lt_or_ge k args.length with h' | h'
      · exact h'
      · simp [List.getElem?_eq_none h'] at h2
    rw [Array.getElem?_append_left (by simpa using hlt)]
    simpa using h2
/-- 'defer f()', f a function value without arguments. -/
theorem Seg.defer {m : Nat} {D : List Deferred} {x : Operand} {f : FuncId} {cap : List Value} {T : TypeId} {pos : String} {aft : Array Edge} {g : Option (Nat × Bool)} {rest : List Oper}
    (hg : gd ops fr g = some true) (hx : Fr.ev fr x = some (.func (.func f) #[] cap.toArray))
    (k : Seg P ⟨m, { target := .fn (.func f) cap.toArray, args := #[] } :: D⟩ ops Q rest fr w) :
    Seg P ⟨m, D⟩ ops Q (⟨none, .defer ⟨.value x, #[], #[]⟩, T, pos, aft, g⟩ :: rest) fr w := .mk fun a ha => by
  refine wpList_step fun K hK => ?_
  rw [if_pos (gd_wanted ha (o := ⟨none, .defer ⟨.value x, #[], #[]⟩, T, pos, aft, g⟩) hg)]
  unfold Oper.wp
  have e : (execOp a.eval ⟨none, .defer ⟨.value x, #[], #[]⟩, T, pos, aft, g⟩).run P w = .ok (.defer { target := .fn (.func f) cap.toArray, args := #[] }) w := by
    simp [execOp, resolve, ha.ev hx, Deferred.ofValue]
  rw [e]
  exact hK _ _ (k.out _ ⟨by show _ :: _ = _ :: _; rw [ha.defers], ha.size, ha.known⟩)
theorem At.retD0 {m : Nat} {fn : Func} {R : Value → World → Prop} {rs : List ResultVar} (hr : fn.results = rs.toArray) {vs : List Value} (h : ResIs P fr w rs vs) (hR : R (resOne vs) w) : At ⟨m, []⟩ (DoneD P fn R) .ret fr w :=
  .mk fun a ha => by
    show Leaves P fn a.tmps _ a.defers .returning w
    rw [ha.defers]
    exact ⟨_, results_run hr ha h, _, rfl, hR⟩
theorem At.retD1 {m : Nat} {fn : Func} {R : Value → World → Prop} {rs : List ResultVar} {f : FuncId} {cap : List Value} (hr : fn.results = rs.toArray) {vs : List Value} (hf : Own P f)
    (hc : CallsD P f cap.toArray .returning w fun e u' w' => e = .returned (.tuple #[]) ∧ u' = .returning ∧ w' = w) (h : ResIs P fr w rs vs) (hR : R (resOne vs) w) :
    At ⟨m, [{ target := .fn (.func f) cap.toArray, args := #[] }]⟩ (DoneD P fn R) .ret fr w :=
  .mk fun a ha => by
    show Leaves P fn a.tmps _ a.defers .returning w
    rw [ha.defers]
    refine leaves_cons (f := f) (args := cap.toArray) (by simp) (by simp [invoke, hf.run]) (hc.mono ?_)
    rintro e u' w'' ⟨rfl, rfl, rfl⟩
    exact ⟨_, results_run hr ha h, _, rfl, hR⟩
end
end Go.Proofs.YtahpiaaffeiadaaGreat
namespace Go.Proofs.YtahpiaaffeiadaaGreat
open Go Go.RowKit
/-- What is left of such a region: what comes ahead of number z keeps the class C. -/
structure SegC (P : Program) (n : Fm) (ops : Array Oper) (Q : Exit → Act → World → Prop) (C : World → Prop) (z fuel : Nat) (listed : Array Bool) (fr : Fr) (w : World) : Prop where
  out : ∀ a, Fr.Of fr n a → wpAnyG P .any ops (NoPanic Q) C z fuel listed a w
def CPost (P : Program) (ops : Array Oper) (Q : Exit → Act → World → Prop) (C : World → Prop) (z fuel : Nat) (listed : Array Bool) (i : Nat) : Exit → Act → World → Prop := fun e a' w' =>
  e = .normal ∧ if i < z then C w' ∧ wpAnyG P .any ops (NoPanic Q) C z fuel listed a' w' else wpAny P .any ops (NoPanic Q) fuel listed a' w'
section
variable {P : Program} {n : Fm} {ops : Array Oper} {Q : Exit → Act → World → Prop} {C : World → Prop} {z fuel : Nat} {listed : Array Bool} {fr : Fr} {w : World}
theorem Cd.heldC (C : World → Prop) (z : Nat) {id : Nat} {l : List Oper} (hm : P.follows .mixedOrders = true) (h : ∀ w1, Ext w w1 → SegC P n l.toArray Q C z l.length (Array.replicate l.length false) fr w1) : Cd P n Q (.region id l.toArray true) fr w := .mk fun _ ha =>
  wp_region_noPanic (wp_region_any hm (wpAny_of_G _ _ _ _ (by simpa using (h w.drew (Ext.drew w)).out _ ha)))
theorem SegC.take (i : Nat) {d : Nat} {op : Op} {T : TypeId} {pos : String} {aft : Array Edge} {g : Option (Nat × Bool)} {v : Value}
    (hi : ops[i]? = some ⟨some d, op, T, pos, aft, g⟩) (hs : Region.noSelect ops = true) (hf : Region.free .any ops listed i = true) (hr : (Region.ready .any ops listed).contains i = true) (hz : Nat.blt i z = true) (ht : tailWaits .any ops z i = true)
    (hg : gd ops fr g = some true) (hd : Nat.blt d n.n = true) (hC : C w) (hy : ∀ w', C w' → Yd P n op T fr w' v w')
    (k : SegC P n ops Q C z fuel (listed.setIfInBounds i true) ((d, v) :: fr) w) : SegC P n ops Q C z (fuel + 1) listed fr w := .mk fun a ha =>
  wpAnyG_first hi (Nat.le_of_ble_eq_true hz) ht (Region.noSelect_spec hs) (fun _ _ _ h => h) fuel listed a w (Region.free_spec hi hf) (by simpa using hr)
    (.inl ⟨gd_wanted ha (o := ⟨some d, op, T, pos, aft, g⟩) hg, fun w' hw' => (hy w' hw').out a ha _ _ _ _⟩) hC (k.out _ (ha.put hd _))
theorem SegC.skip (i : Nat) {d : Nat} {op : Op} {T : TypeId} {pos : String} {aft : Array Edge} {g : Option (Nat × Bool)}
    (hi : ops[i]? = some ⟨some d, op, T, pos, aft, g⟩) (hs : Region.noSelect ops = true) (hf : Region.free .any ops listed i = true) (hr : (Region.ready .any ops listed).contains i = true) (hz : Nat.blt i z = true) (ht : tailWaits .any ops z i = true)
    (hg : gd ops fr g = some false) (hd : Nat.blt d n.n = true) (hC : C w)
    (k : SegC P n ops Q C z fuel (listed.setIfInBounds i true) ((d, undef) :: fr) w) : SegC P n ops Q C z (fuel + 1) listed fr w := .mk fun a ha =>
  wpAnyG_first hi (Nat.le_of_ble_eq_true hz) ht (Region.noSelect_spec hs) (fun _ _ _ h => h) fuel listed a w (Region.free_spec hi hf) (by simpa using hr)
    (.inr ⟨gd_wanted ha (o := ⟨some d, op, T, pos, aft, g⟩) hg, rfl⟩) hC (k.out _ (ha.put hd _))
theorem SegC.oneSeg (i : Nat) {o : Oper} (hi : ops[i]? = some o) (hr : Region.ready .any ops listed = [i]) (h : Seg P n ops (CPost P ops Q C z fuel (listed.setIfInBounds i true) i) [o] fr w) : SegC P n ops Q C z (fuel + 1) listed fr w := .mk fun a ha => by
  refine ⟨fun h0 => (by rw [h0] at hr; cases hr), fun j hj => ?_⟩
  rw [hr] at hj
  obtain rfl : j = i := by simpa using hj
  exact wpOp_of_seg hi (fun e a' w' hh => ⟨hh.1, hh.2⟩) h ha
theorem SegC.twoSeg (i i' : Nat) {o o' : Oper} (hi : ops[i]? = some o) (hi' : ops[i']? = some o') (hr : Region.ready .any ops listed = [i, i']) (h : Seg P n ops (CPost P ops Q C z fuel (listed.setIfInBounds i true) i) [o] fr w)
    (h' : Seg P n ops (CPost P ops Q C z fuel (listed.setIfInBounds i' true) i') [o'] fr w) : SegC P n ops Q C z (fuel + 1) listed fr w := .mk fun a ha => by
  refine ⟨fun h0 => (by rw [h0] at hr; cases hr), fun j hj => ?_⟩
  rw [hr] at hj
  have : j = i ∨ j = i' := by simpa using hj
  rcases this with rfl | rfl
  · exact wpOp_of_seg hi (fun e a' w' hh => ⟨hh.1, hh.2⟩) h ha
  · exact wpOp_of_seg hi' (fun e a' w' hh => ⟨hh.1, hh.2⟩) h' ha
theorem At.backC {i : Nat} {w' : World} (hz : Nat.blt i z = true) (hC : C w') (h : SegC P n ops Q C z fuel listed fr w') : At n (CPost P ops Q C z fuel listed i) .normal fr w' := .mk fun a ha =>
  ⟨rfl, by rw [if_pos (show i < z from Nat.le_of_ble_eq_true hz)]; exact ⟨hC, h.out a ha⟩⟩
theorem At.endC {i : Nat} {w' : World} (hz : Nat.ble z i = true) (h : SegA P n ops Q fuel listed fr w') : At n (CPost P ops Q C z fuel listed i) .normal fr w' := .mk fun a ha =>
  ⟨rfl, by rw [if_neg (show ¬ i < z from Nat.not_lt.2 (Nat.le_of_ble_eq_true hz))]; exact h.out a ha⟩
theorem SegC.done (hr : Region.ready .any ops listed = []) (h : At n Q .normal fr w) : SegC P n ops Q C z fuel listed fr w := .mk fun a ha => by
  cases fuel with
  | zero => exact ⟨hr, h.out a ha⟩
  | succ f => exact ⟨fun _ => h.out a ha, by rw [hr]; simp⟩
end
end Go.Proofs.YtahpiaaffeiadaaGreat
