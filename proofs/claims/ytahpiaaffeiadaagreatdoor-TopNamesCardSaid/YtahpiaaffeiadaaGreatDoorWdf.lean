/- Rules: functions that defer a call. -/
import Derived.Test.YtahpiaaffeiadaaGreatDoorWka
import Derived.Recover
namespace Go.Proofs.YtahpiaaffeiadaaGreatDoor
open Go Go.RowKit
/-- What the end of a function that defers is asked. -/
def DoneD (P : Program) (fn : Func) (R : Value → World → Prop) : Exit → Act → World → Prop := bodyPostD P fn fun e w' => ∃ v, e = .returned v ∧ R v w'
section
variable {P : Program} {n : Fm} {ops : Array Oper} {Q : Exit → Act → World → Prop} {fr : Fr} {w : World}
theorem Ret.bodyD {m : Nat} {f : FuncId} {fn : Func} {c : Code} {args : List Value} {R : Value → World → Prop} (hf : P.funcs[f]? = some fn) (hb : fn.body = some c) (hn : fn.ntmps = m) (hle : Nat.ble args.length m = true)
    (h : Cd P ⟨m, []⟩ (DoneD P fn R) c (frArgs 0 args) w) : Ret P f args.toArray w R := by
  refine calls_of_wp_defers hf hb (h.out _ ⟨rfl, ?_, ?_⟩)
  · have := Nat.le_of_ble_eq_true hle
    simp [hn]; omega
  · intro k v hk
    obtain ⟨_, h2⟩ := frArgs_mem args 0 (k, v) (Fr.mem_of_look hk)
    left
    have hlt : k < args.length := by
      rcases Nat.lt_or_ge k args.length with h' | h'
      · exact h'
      · simp [List.getElem?_eq_none h'] at h2
    rw [Array.getElem?_append_left (by simpa using hlt)]
    simpa using h2
/-- 'defer f()', f a function value without arguments. -/
theorem Seg.defer {m : Nat} {D : List Deferred} {x : Operand} {f : FuncId} {cap : List Value} {T : TypeId} {pos : String} {aft : Array Edge} {g : Option (Nat × Bool)} {rest : List Oper}
    (hg : gd ops fr g = some true) (hx : Fr.ev fr x = some (.func (.func f) #[] cap.toArray))
    (k : Seg P ⟨m, { target := .fn (.func f) cap.toArray, args := #[] } :: D⟩ ops Q rest fr w) :
    Seg P ⟨m, D⟩ ops Q (⟨none, .defer ⟨.value x, #[], #[]⟩, T, pos, aft, g⟩ :: rest) fr w := .mk fun a ha => by
  refine wpList_step fun K hK => ?_
  rw [if_pos (gd_wanted ha (o := ⟨none, .defer ⟨.value x, #[], #[]⟩, T, pos, aft, g⟩) hg)]
  unfold Oper.wp
  have e : (execOp a.eval ⟨none, .defer ⟨.value x, #[], #[]⟩, T, pos, aft, g⟩).run P w = .ok (.defer { target := .fn (.func f) cap.toArray, args := #[] }) w := by
    simp [execOp, resolve, ha.ev hx, Deferred.ofValue]
  rw [e]
  exact hK _ _ (k.out _ ⟨by show _ :: _ = _ :: _; rw [ha.defers], ha.size, ha.known⟩)
theorem At.retD0 {m : Nat} {fn : Func} {R : Value → World → Prop} {rs : List ResultVar} (hr : fn.results = rs.toArray) {vs : List Value} (h : ResIs P fr w rs vs) (hR : R (resOne vs) w) : At ⟨m, []⟩ (DoneD P fn R) .ret fr w :=
  .mk fun a ha => by
    show Leaves P fn a.tmps _ a.defers .returning w
    rw [ha.defers]
    exact ⟨_, results_run hr ha h, _, rfl, hR⟩
theorem At.retD1 {m : Nat} {fn : Func} {R : Value → World → Prop} {rs : List ResultVar} {f : FuncId} {cap : List Value} (hr : fn.results = rs.toArray) {vs : List Value} (hf : Own P f)
    (hc : CallsD P f cap.toArray .returning w fun e u' w' => e = .returned (.tuple #[]) ∧ u' = .returning ∧ w' = w) (h : ResIs P fr w rs vs) (hR : R (resOne vs) w) :
    At ⟨m, [{ target := .fn (.func f) cap.toArray, args := #[] }]⟩ (DoneD P fn R) .ret fr w :=
  .mk fun a ha => by
    show Leaves P fn a.tmps _ a.defers .returning w
    rw [ha.defers]
    refine leaves_cons (f := f) (args := cap.toArray) (by simp) (by simp [invoke, hf.run]) ?_
    refine hc.mono ?_
    rintro e u' w'' ⟨rfl, rfl, rfl⟩
    exact ⟨_, results_run hr ha h, _, rfl, hR⟩
end
end Go.Proofs.YtahpiaaffeiadaaGreatDoor
