/- Labels of hosts in letters, digits and hyphens: label.may, label.ToASCII, and what they are. -/
import Derived.Test.YtahpiaaffeiadaaGreatEpv
namespace Go.Proofs.YtahpiaaffeiadaaGreat
open Go Go.RowKit
/-- A small letter, a digit or a hyphen. -/
def goodB (b : UInt8) : Prop := plainI (b.toNat : Int) ∧ lowB b = b
theorem letB_good {n : Nat} (h : n < 36) : goodB (letB n) ∧ letB n ≠ 45 := by
  have hb : ∀ m : Nat, (97 ≤ m ∧ m ≤ 122) ∨ (48 ≤ m ∧ m ≤ 57) → goodB (UInt8.ofNat m) ∧ UInt8.ofNat m ≠ 45 := fun m hm => by
    have e : (UInt8.ofNat m).toNat = m := by rw [u8_of]; omega
    refine ⟨⟨by rw [e]; unfold plainI; omega, ?_⟩, fun h => ?_⟩
    · unfold lowB; rw [e, if_neg (by omega)]
    · have := congrArg UInt8.toNat h
      rw [e] at this
      have h45 : (45 : UInt8).toNat = 45 := rfl
      omega
  unfold letB
  split
  · exact hb _ (by omega)
  · exact hb _ (by omega)
theorem addF_good : ∀ (f k n : Nat) (b : Int), ∀ x ∈ addF f k n b, goodB x ∧ x ≠ 45
  | 0, _, _, _ => fun x hx => by cases hx
  | f + 1, k, n, b => fun x hx => by
    obtain ⟨t1, t2⟩ := bnd_in k b
    unfold addF at hx
    split at hx
    · rw [List.mem_singleton.1 hx]; exact letB_good (by omega)
    · rcases List.mem_cons.1 hx with rfl | hx
      · have := Nat.mod_lt (n - (bndI k b).toNat) (show 0 < 36 - (bndI k b).toNat by omega)
        exact letB_good (by omega)
      · exact addF_good f _ _ _ x hx
theorem addF_ne (f k n : Nat) (b : Int) : addF (f + 1) k n b ≠ [] := by
  unfold addF; split <;> simp
/-- What is written is good, and ends with a figure, once there is one. -/
def InvQ (basic : Nat) (st : EncS) : Prop := (∀ x ∈ st.b, goodB x) ∧ basic ≤ st.done ∧ (basic < st.done → ∃ x, st.b.getLast? = some x ∧ x ≠ 45)
theorem inn_q {basic m c : Nat} {st : EncS} (h : InvQ basic st) : InvQ basic (innE basic m st c) := by
  obtain ⟨h1, h2, h3⟩ := h
  unfold innE
  split
  · exact ⟨h1, h2, h3⟩
  · split
    · have hg := addF_good 20 1 st.steps (st.bias : Int)
      have hne := addF_ne 19 1 st.steps (st.bias : Int)
      refine ⟨fun x hx => ?_, Nat.le_succ_of_le h2, fun _ => ?_⟩
      · rcases List.mem_append.1 hx with hx | hx
        · exact h1 x hx
        · exact (hg x hx).1
      · refine ⟨(addF 20 1 st.steps (st.bias : Int)).getLast hne, ?_, (hg _ (List.getLast_mem hne)).2⟩
        show (st.b ++ addF 20 1 st.steps (st.bias : Int)).getLast? = _
        rw [List.getLast?_append, List.getLast?_eq_some_getLast hne]; rfl
    · exact ⟨h1, h2, h3⟩
theorem fold_q {basic m : Nat} : ∀ (l : List Nat) {st : EncS}, InvQ basic st → InvQ basic (l.foldl (innE basic m) st)
  | [], _, h => h
  | c :: l, st, h => by rw [List.foldl_cons]; exact fold_q l (inn_q h)
theorem encF_fin {basic : Nat} {l : List Nat} (hb : ∀ c ∈ l, c < 1114112) : ∀ (f : Nat) {st : EncS}, Inv1 l st → InvQ basic st → l.length ≤ st.done + f → Inv1 l (encF basic l f st) ∧ InvQ basic (encF basic l f st) ∧ l.length ≤ (encF basic l f st).done
  | 0, st, h1, h2, h3 => ⟨h1, h2, h3⟩
  | f + 1, st, h1, h2, h3 => by
    unfold encF
    by_cases hd : st.done < l.length
    · rw [if_pos hd]
      obtain ⟨o1, o2⟩ := out_inv (basic := basic) hb h1 hd
      have hq : InvQ basic (outE basic l st) := by
        have := fold_q l (m := leastF l st.n) (show InvQ basic (preE l st) from h2)
        exact this
      exact encF_fin hb f o1 hq (by omega)
    · rw [if_neg hd]
      exact ⟨h1, h2, by omega⟩
theorem encP_good {l : List Nat} (hb : ∀ c ∈ l, c < 1114112) (hg : ∀ c ∈ l, c < 128 → goodB (UInt8.ofNat c)) : (∀ x ∈ encP l, goodB x) ∧ (encP l).length ≤ 21 * l.length + 1 ∧ ((∃ c ∈ l, 128 ≤ c) → ∃ x, (encP l).getLast? = some x ∧ x ≠ 45) := by
  have hs : InvQ (basB l).length (startE l) := by
    refine ⟨fun x hx => ?_, Nat.le_refl _, fun h => absurd h (Nat.lt_irrefl _)⟩
    have hx' : x ∈ basB l ++ (if (basB l).length = 0 then [] else [45]) := hx
    rcases List.mem_append.1 hx' with hx | hx
    · obtain ⟨c, hc, rfl⟩ := List.mem_map.1 hx
      obtain ⟨hc1, hc2⟩ := List.mem_filter.1 hc
      exact hg c hc1 (of_decide_eq_true hc2)
    · split at hx
      · cases hx
      · rw [List.mem_singleton.1 hx]
        exact ⟨by unfold plainI; right; right; right; rfl, rfl⟩
  obtain ⟨e1, e2, e3⟩ := encF_fin hb l.length (start_inv l) hs (Nat.le_add_left _ _)
  have hdl : (encF (basB l).length l l.length (startE l)).done ≤ l.length := by rw [e1.2.2.1]; exact List.countP_le_length
  refine ⟨e2.1, ?_, fun ⟨c, hc, hc2⟩ => e2.2.2 ?_⟩
  · have := e1.2.2.2.2.2
    show (encF (basB l).length l l.length (startE l)).b.length ≤ _
    omega
  · have h1 := basB_len l
    have : l.countP (fun c => decide (c < 128)) < l.length := by
      rcases Nat.lt_or_ge (l.countP (fun c => decide (c < 128))) l.length with h | h
      · exact h
      · have he := List.countP_eq_length.1 (Nat.le_antisymm List.countP_le_length h) c hc
        simp at he; omega
    omega
/-- May points be a label's? -/
def dotI (c : Nat) : Prop := c = 12290 ∨ c = 65294 ∨ c = 65377
instance (c : Nat) : Decidable (dotI c) := by unfold dotI; infer_instance
def mayC (c : Nat) : Prop := (c < 128 → plainI (c : Int)) ∧ ¬ dotI c
instance (c : Nat) : Decidable (mayC c) := by unfold mayC; infer_instance
def mayL (l : List Nat) : Prop := (∀ c ∈ l, mayC c) ∧ l.getD 0 0 ≠ 45 ∧ l.getD (l.length - 1) 0 ≠ 45
instance (l : List Nat) : Decidable (mayL l) := by unfold mayL; infer_instance
theorem lmay_any (l : List Nat) (v0 : Value) (w : World) (h0 : Sl w 1 v0 l.length (r32 l)) (hl : l.length ≤ 1000000) (hp : 1 ≤ l.length) : Ret Tryz.prog 63 #[v0] w fun v w' => v = .bool (decide (mayL l)) ∧ Ext w w' := by
  have hE0 := Ext.refl w
  obtain ⟨ao, c, rfl, hl0, hr0, hz0⟩ := h0
  obtain ⟨a, rfl⟩ : ∃ a, ao = some a := by
    cases ao with
    | none => have := hz0 rfl; omega
    | some a => exact ⟨a, rfl⟩
  have hr0 := hr0 a rfl
  have hgd : ∀ i, i < l.length → l[i]? = some (l.getD i 0) := fun i hi => by simp [List.getD, hi]
  refine Ret.body Tryz.func63 rfl Tryz.ntmps63 rfl (Cd.seq (Cd.region (Seg.step rfl rfl (Yd.assign rfl) (Seg.nil (At.then_ (Cd.seq (Cd.seq ?_)))))))
  refine Cd.region (Seg.step rfl rfl (Yd.move rfl) (Seg.step rfl rfl (Yd.lenS rfl rfl) (Seg.step rfl rfl (Yd.move rfl) (Seg.nil (At.then_ (Cd.block ?_))))))
  refine Cd.loop (σ := Nat) (fun i => [(0, .slice (some a) l.length c), (5, .slice (some a) l.length c), (6, .int .i64 (l.length : Int)), (7, .int .i64 (i : Int))])
    (fun i w' => i ≤ l.length ∧ (∀ c ∈ l.take i, mayC c) ∧ Ext w w') (fun i => l.length - i) 0 (.cons rfl (.cons rfl (.cons rfl (.cons rfl (.nil _))))) ⟨Nat.zero_le _, fun b hb => by simp at hb, hE0⟩ ?_
  clear hE0
  rintro i w1 ⟨hi, hT, hE0⟩
  by_cases hlt : i < l.length
  · obtain ⟨x, hx⟩ : ∃ x, l[i]? = some x := ⟨_, List.getElem?_eq_getElem hlt⟩
    have hmem := List.mem_of_getElem? hx
    by_cases hm : mayC x
    · have hT' : ∀ c ∈ l.take (i + 1), mayC c := fun b hb => by
        rw [List.take_add_one, hx] at hb
        rcases List.mem_append.1 hb with hb | hb
        · exact hT b hb
        · rw [List.mem_singleton.1 hb]; exact hm
      have hm1 := hm.1
      have hm2 : ¬ ((x : Int) = 12290) ∧ ¬ ((x : Int) = 65294) ∧ ¬ ((x : Int) = 65377) := by
        have := hm.2
        unfold dotI at this
        omega
      obtain ⟨hm3, hm4, hm5⟩ := hm2
      by_cases hx1 : x < 128
      · have hd : decide (plainI (x : Int)) = true := decide_eq_true (hm1 hx1)
        refine Cd.seq (Cd.region (Seg.step rfl rfl (Yd.lss rfl rfl) (Seg.nil (At.then_ (Cd.seq ?_)))))
        refine Cd.condk rfl (fun h12 => ?_) (fun h12 => ?_)
        · refine Cd.skip (At.then_ (Cd.seq (Cd.block (Cd.seq (Cd.region (Seg.step rfl rfl (Yd.indexAddr1 rfl rfl rfl (NatOf.cast _) (by omega)) (Seg.step rfl rfl (Yd.load1 rfl rfl ((hr0.ext hE0) _ _ (r32_at hx))) ?_)))))))
          refine Seg.step rfl rfl (Yd.assign rfl) (Seg.nil (At.then_ (Cd.seq (Cd.region (Seg.step rfl rfl (Yd.move rfl) (Seg.step rfl rfl (Yd.lss rfl rfl) (Seg.step rfl rfl (Yd.move rfl) ?_)))))))
          refine Seg.gsplitp rfl rfl (fun h30 => ?_) (fun h30 => ?_)
          · refine Seg.step rfl rfl (Yd.move rfl) ?_
            (refine Seg.call rfl rfl (own_of rfl) rfl (lplain_any _ _) ?_; rw [hd]; rintro _ w33 ⟨rfl, hE33⟩)
            replace hE0 := Ext.trans hE0 hE33
            refine Seg.step rfl rfl (Yd.not rfl) (Seg.step rfl rfl (Yd.pickT rfl rfl) (Seg.step rfl rfl (Yd.move rfl) (Seg.step rfl rfl (Yd.move rfl) (Seg.step rfl rfl (Yd.eql rfl rfl) (Seg.step rfl rfl (Yd.pickF rfl rfl) (Seg.step rfl rfl (Yd.move rfl) ?_))))))
            refine Seg.gsplitp rfl rfl (fun h41 => ?_) (fun h41 => ?_)
            · exfalso; omega
            · refine Seg.step rfl rfl (Yd.move rfl) (Seg.step rfl rfl (Yd.eql rfl rfl) (Seg.step rfl rfl (Yd.pickF rfl rfl) (Seg.step rfl rfl (Yd.move rfl) ?_)))
              refine Seg.gsplitp rfl rfl (fun h47 => ?_) (fun h47 => ?_)
              · exfalso; omega
              · refine Seg.step rfl rfl (Yd.move rfl) (Seg.step rfl rfl (Yd.eql rfl rfl) (Seg.step rfl rfl (Yd.pickF rfl rfl) (Seg.nil (At.then_ ?_))))
                refine Cd.condk rfl (fun h54 => ?_) (fun h54 => ?_)
                · exfalso; omega
                · refine Cd.skip (At.blk (At.then_ (Cd.region (Seg.step rfl rfl (Yd.addI rfl rfl (by omega)) (Seg.step rfl rfl (Yd.move rfl) (Seg.nil ?_))))))
                  exact At.round (i + 1) (.cons rfl (.cons rfl (.cons rfl (.cons rfl (.nil _))))) ⟨hlt, hT', hE0⟩ (Nat.sub_lt_sub_left hlt (Nat.lt_succ_self i))
          · exfalso; omega
        · exfalso; omega
      · refine Cd.seq (Cd.region (Seg.step rfl rfl (Yd.lss rfl rfl) (Seg.nil (At.then_ (Cd.seq ?_)))))
        refine Cd.condk rfl (fun h12 => ?_) (fun h12 => ?_)
        · refine Cd.skip (At.then_ (Cd.seq (Cd.block (Cd.seq (Cd.region (Seg.step rfl rfl (Yd.indexAddr1 rfl rfl rfl (NatOf.cast _) (by omega)) (Seg.step rfl rfl (Yd.load1 rfl rfl ((hr0.ext hE0) _ _ (r32_at hx))) ?_)))))))
          refine Seg.step rfl rfl (Yd.assign rfl) (Seg.nil (At.then_ (Cd.seq (Cd.region (Seg.step rfl rfl (Yd.move rfl) (Seg.step rfl rfl (Yd.lss rfl rfl) (Seg.step rfl rfl (Yd.move rfl) ?_)))))))
          refine Seg.gsplitp rfl rfl (fun h30 => ?_) (fun h30 => ?_)
          · exfalso; omega
          · refine Seg.skip rfl rfl (Seg.skip rfl rfl (Seg.skip rfl rfl (Seg.step rfl rfl (Yd.pickF rfl rfl) (Seg.step rfl rfl (Yd.move rfl) (Seg.step rfl rfl (Yd.move rfl) (Seg.step rfl rfl (Yd.eql rfl rfl) (Seg.step rfl rfl (Yd.pickF rfl rfl) ?_)))))))
            refine Seg.step rfl rfl (Yd.move rfl) ?_
            refine Seg.gsplitp rfl rfl (fun h41 => ?_) (fun h41 => ?_)
            · exfalso; omega
            · refine Seg.step rfl rfl (Yd.move rfl) (Seg.step rfl rfl (Yd.eql rfl rfl) (Seg.step rfl rfl (Yd.pickF rfl rfl) (Seg.step rfl rfl (Yd.move rfl) ?_)))
              refine Seg.gsplitp rfl rfl (fun h47 => ?_) (fun h47 => ?_)
              · exfalso; omega
              · refine Seg.step rfl rfl (Yd.move rfl) (Seg.step rfl rfl (Yd.eql rfl rfl) (Seg.step rfl rfl (Yd.pickF rfl rfl) (Seg.nil (At.then_ ?_))))
                refine Cd.condk rfl (fun h54 => ?_) (fun h54 => ?_)
                · exfalso; omega
                · refine Cd.skip (At.blk (At.then_ (Cd.region (Seg.step rfl rfl (Yd.addI rfl rfl (by omega)) (Seg.step rfl rfl (Yd.move rfl) (Seg.nil ?_))))))
                  exact At.round (i + 1) (.cons rfl (.cons rfl (.cons rfl (.cons rfl (.nil _))))) ⟨hlt, hT', hE0⟩ (Nat.sub_lt_sub_left hlt (Nat.lt_succ_self i))
        · exfalso; omega
    · have hno : ¬ mayL l := fun h => hm (h.1 x hmem)
      have hm' : ¬ (x < 128 → plainI (x : Int)) ∨ (x : Int) = 12290 ∨ (x : Int) = 65294 ∨ (x : Int) = 65377 := by
        by_cases h1 : x < 128 → plainI (x : Int)
        · right
          have : dotI x := Classical.byContradiction fun h => hm ⟨h1, h⟩
          unfold dotI at this; omega
        · exact .inl h1
      by_cases hx1 : x < 128
      · have hd : decide (plainI (x : Int)) = false := decide_eq_false fun h => by
          rcases hm' with h1 | h1
          · exact h1 fun _ => h
          · omega
        refine Cd.seq (Cd.region (Seg.step rfl rfl (Yd.lss rfl rfl) (Seg.nil (At.then_ (Cd.seq ?_)))))
        refine Cd.condk rfl (fun h8 => ?_) (fun h8 => ?_)
        · refine Cd.skip (At.then_ (Cd.seq (Cd.block (Cd.seq (Cd.region (Seg.step rfl rfl (Yd.indexAddr1 rfl rfl rfl (NatOf.cast _) (by omega)) (Seg.step rfl rfl (Yd.load1 rfl rfl ((hr0.ext hE0) _ _ (r32_at hx))) ?_)))))))
          refine Seg.step rfl rfl (Yd.assign rfl) (Seg.nil (At.then_ (Cd.seq (Cd.region (Seg.step rfl rfl (Yd.move rfl) (Seg.step rfl rfl (Yd.lss rfl rfl) (Seg.step rfl rfl (Yd.move rfl) ?_)))))))
          refine Seg.gsplitp rfl rfl (fun h26 => ?_) (fun h26 => ?_)
          · refine Seg.step rfl rfl (Yd.move rfl) ?_
            (refine Seg.call rfl rfl (own_of rfl) rfl (lplain_any _ _) ?_; rw [hd]; rintro _ w29 ⟨rfl, hE29⟩)
            replace hE0 := Ext.trans hE0 hE29
            refine Seg.step rfl rfl (Yd.not rfl) (Seg.step rfl rfl (Yd.pickT rfl rfl) (Seg.step rfl rfl (Yd.move rfl) (Seg.skip rfl rfl (Seg.skip rfl rfl (Seg.step rfl rfl (Yd.pickT rfl rfl) (Seg.step rfl rfl (Yd.move rfl) (Seg.skip rfl rfl ?_)))))))
            refine Seg.skip rfl rfl (Seg.step rfl rfl (Yd.pickT rfl rfl) (Seg.step rfl rfl (Yd.move rfl) (Seg.skip rfl rfl (Seg.skip rfl rfl (Seg.step rfl rfl (Yd.pickT rfl rfl) (Seg.nil (At.then_ ?_)))))))
            refine Cd.condT rfl (Cd.seq (Cd.region (Seg.step rfl rfl (Yd.assign rfl) (Seg.nil (At.then_ (Cd.ret (At.blk_ret ?_)))))))
            refine At.then_ret (At.then_ret (At.blk_ret (At.then_ret ?_)))
            exact At.ret Tryz.results63 (.tmp rfl .nil) ⟨bF hno, hE0⟩
          · exfalso; omega
        · exfalso; omega
      · have hm3 : (x : Int) = 12290 ∨ (x : Int) = 65294 ∨ (x : Int) = 65377 := hm'.elim (fun h => absurd (fun h2 => absurd h2 hx1) h) id
        refine Cd.seq (Cd.region (Seg.step rfl rfl (Yd.lss rfl rfl) (Seg.nil (At.then_ (Cd.seq ?_)))))
        refine Cd.condk rfl (fun h10 => ?_) (fun h10 => ?_)
        · refine Cd.skip (At.then_ (Cd.seq (Cd.block (Cd.seq (Cd.region (Seg.step rfl rfl (Yd.indexAddr1 rfl rfl rfl (NatOf.cast _) (by omega)) (Seg.step rfl rfl (Yd.load1 rfl rfl ((hr0.ext hE0) _ _ (r32_at hx))) ?_)))))))
          refine Seg.step rfl rfl (Yd.assign rfl) (Seg.nil (At.then_ (Cd.seq (Cd.region (Seg.step rfl rfl (Yd.move rfl) (Seg.step rfl rfl (Yd.lss rfl rfl) (Seg.step rfl rfl (Yd.move rfl) ?_)))))))
          refine Seg.gsplitp rfl rfl (fun h28 => ?_) (fun h28 => ?_)
          · exfalso; omega
          · refine Seg.skip rfl rfl (Seg.skip rfl rfl (Seg.skip rfl rfl (Seg.step rfl rfl (Yd.pickF rfl rfl) (Seg.step rfl rfl (Yd.move rfl) (Seg.step rfl rfl (Yd.move rfl) (Seg.step rfl rfl (Yd.eql rfl rfl) (Seg.step rfl rfl (Yd.pickF rfl rfl) ?_)))))))
            refine Seg.step rfl rfl (Yd.move rfl) ?_
            refine Seg.gsplitp rfl rfl (fun h39 => ?_) (fun h39 => ?_)
            · refine Seg.skip rfl rfl (Seg.skip rfl rfl (Seg.step rfl rfl (Yd.pickT rfl rfl) (Seg.step rfl rfl (Yd.move rfl) (Seg.skip rfl rfl (Seg.skip rfl rfl (Seg.step rfl rfl (Yd.pickT rfl rfl) (Seg.nil ?_)))))))
              refine At.then_ (Cd.condT rfl (Cd.seq (Cd.region (Seg.step rfl rfl (Yd.assign rfl) (Seg.nil (At.then_ (Cd.ret ?_)))))))
              refine At.blk_ret (At.then_ret (At.then_ret (At.blk_ret (At.then_ret ?_))))
              exact At.ret Tryz.results63 (.tmp rfl .nil) ⟨bF hno, hE0⟩
            · refine Seg.step rfl rfl (Yd.move rfl) (Seg.step rfl rfl (Yd.eql rfl rfl) (Seg.step rfl rfl (Yd.pickF rfl rfl) (Seg.step rfl rfl (Yd.move rfl) ?_)))
              refine Seg.gsplitp rfl rfl (fun h68 => ?_) (fun h68 => ?_)
              · refine Seg.skip rfl rfl (Seg.skip rfl rfl (Seg.step rfl rfl (Yd.pickT rfl rfl) (Seg.nil (At.then_ (Cd.condT rfl (Cd.seq (Cd.region ?_)))))))
                refine Seg.step rfl rfl (Yd.assign rfl) (Seg.nil (At.then_ (Cd.ret (At.blk_ret (At.then_ret (At.then_ret (At.blk_ret ?_)))))))
                refine At.then_ret ?_
                exact At.ret Tryz.results63 (.tmp rfl .nil) ⟨bF hno, hE0⟩
              · refine Seg.step rfl rfl (Yd.move rfl) (Seg.step rfl rfl (Yd.eql rfl rfl) (Seg.step rfl rfl (Yd.pickF rfl rfl) (Seg.nil (At.then_ ?_))))
                refine Cd.condk rfl (fun h94 => ?_) (fun h94 => ?_)
                · refine Cd.seq (Cd.region (Seg.step rfl rfl (Yd.assign rfl) (Seg.nil (At.then_ (Cd.ret (At.blk_ret (At.then_ret ?_)))))))
                  refine At.then_ret (At.blk_ret (At.then_ret ?_))
                  exact At.ret Tryz.results63 (.tmp rfl .nil) ⟨bF hno, hE0⟩
                · exfalso; omega
        · exfalso; omega
  · have hil : l.take i = l := List.take_of_length_le (by omega)
    rw [hil] at hT
    have h00 := r32_at (hgd 0 (by omega))
    have h11 := r32_at (hgd (l.length - 1) (by omega))
    have hmid : ¬ ((l.getD 0 0 : Nat) : Int) = 45 → Value.bool (decide (((l.getD (l.length - 1) 0 : Nat) : Int) ≠ 45)) = .bool (decide (mayL l)) := fun h => by
      congr 1
      rw [decide_eq_decide]
      exact ⟨fun h' => ⟨hT, by omega, by omega⟩, fun h' => by have := h'.2.2; omega⟩
    have hbad : ((l.getD 0 0 : Nat) : Int) = 45 → Value.bool false = .bool (decide (mayL l)) := fun h => bF fun h' => h'.2.1 (by omega)
    refine Cd.seq (Cd.region (Seg.step rfl rfl (Yd.lss rfl rfl) (Seg.nil (At.then_ (Cd.seq ?_)))))
    refine Cd.condk rfl (fun h18 => ?_) (fun h18 => ?_)
    · exfalso; omega
    · refine Cd.exit (At.then_exit (At.then_exit (At.blk_same (At.then_ (Cd.seq (Cd.region (Seg.step rfl rfl (Yd.move rfl) ?_)))))))
      refine Seg.step rfl rfl (Yd.indexAddr1 rfl rfl rfl (NatOf.cast 0) (by omega)) (Seg.step rfl rfl (Yd.load1 rfl rfl ((hr0.ext hE0) _ _ h00)) (Seg.step rfl rfl (Yd.neq rfl rfl) (Seg.step rfl rfl (Yd.move rfl) ?_)))
      refine Seg.gsplitp rfl rfl (fun h32 => ?_) (fun h32 => ?_)
      · refine Seg.step rfl rfl (Yd.move rfl) (Seg.step rfl rfl (Yd.move rfl) (Seg.step rfl rfl (Yd.lenS rfl rfl) (Seg.step rfl rfl (Yd.subI rfl rfl (by omega)) (Seg.step rfl rfl (Yd.indexAddr1 rfl rfl rfl (NatOf.sub (NatOf.cast _) (NatOf.cast 1) (by omega)) (by omega)) (Seg.step rfl rfl (Yd.load1 rfl rfl ((hr0.ext hE0) _ _ h11)) (Seg.step rfl rfl (Yd.neq rfl rfl) (Seg.step rfl rfl (Yd.pickT rfl rfl) ?_)))))))
        refine Seg.step rfl rfl (Yd.assign rfl) (Seg.nil (At.then_ (Cd.ret ?_)))
        first | exact At.ret Tryz.results63 (.tmp rfl .nil) ⟨hmid (by omega), hE0⟩ | exact At.ret Tryz.results63 (.tmp rfl .nil) ⟨hbad (by omega), hE0⟩
      · refine Seg.skip rfl rfl (Seg.skip rfl rfl (Seg.skip rfl rfl (Seg.skip rfl rfl (Seg.skip rfl rfl (Seg.skip rfl rfl (Seg.skip rfl rfl (Seg.step rfl rfl (Yd.pickF rfl rfl) ?_)))))))
        refine Seg.step rfl rfl (Yd.assign rfl) (Seg.nil (At.then_ (Cd.ret ?_)))
        first | exact At.ret Tryz.results63 (.tmp rfl .nil) ⟨hmid (by omega), hE0⟩ | exact At.ret Tryz.results63 (.tmp rfl .nil) ⟨hbad (by omega), hE0⟩
theorem runesF_len : ∀ (k : Nat) {l : List UInt8} {ps : List Nat}, runesF k l = some ps → ps.length ≤ l.length ∧ ∀ c ∈ ps, pointI (c : Int)
  | 0, l, ps, h => by
    unfold runesF at h
    split at h
    · cases h; exact ⟨Nat.zero_le _, fun c hc => by cases hc⟩
    · cases h
  | k + 1, l, ps, h => by
    unfold runesF at h
    split at h
    · cases h; exact ⟨Nat.zero_le _, fun c hc => by cases hc⟩
    · cases hn : nextB l with
      | none => rw [hn] at h; cases h
      | some p =>
        obtain ⟨c, n⟩ := p
        rw [hn] at h
        obtain ⟨m1, m2, m4, hpt⟩ := nextB_pos hn
        cases hr : runesF k (l.drop n) with
        | none => simp only [hr] at h; cases h
        | some qs =>
          simp only [hr] at h
          cases h
          obtain ⟨i1, i2⟩ := runesF_len k hr
          rw [List.length_drop] at i1
          refine ⟨by rw [List.length_cons]; omega, fun x hx => ?_⟩
          rcases List.mem_cons.1 hx with rfl | hx
          · exact hpt
          · exact i2 x hx
theorem runesB_len {l : List UInt8} {ps : List Nat} (h : runesB l = some ps) : ps.length ≤ l.length ∧ ∀ c ∈ ps, pointI (c : Int) := runesF_len _ h
theorem runesB_ne {l : List UInt8} {ps : List Nat} (h : runesB l = some ps) (hl : l ≠ []) : ps ≠ [] := by
  rw [runesB_step hl] at h
  cases hn : nextB l with
  | none => rw [hn] at h; cases h
  | some p =>
    obtain ⟨c, n⟩ := p
    rw [hn] at h
    simp only at h
    cases hr : runesB (l.drop n) with
    | none => rw [hr] at h; cases h
    | some qs => rw [hr] at h; cases h; simp
def xnB : List UInt8 := [120, 110, 45, 45]
/-- A label in letters, digits and hyphens, and what is wrong. -/
def toA (s : List UInt8) : List UInt8 × Int :=
  if asciiL s then (if hostL s then (lowS s, 0) else ([], 7))
  else match runesB (lowS s) with
    | none => ([], 5)
    | some l => if mayL l then (if (xnB ++ encP l).length ≤ 63 then (xnB ++ encP l, 0) else ([], 7)) else ([], 7)
def resA (r : List UInt8 × Int) : Value := .tuple #[.string ⟨r.1.toArray⟩, .int .i64 r.2]
theorem encP_len {l : List Nat} (hb : ∀ c ∈ l, c < 1114112) : (encP l).length ≤ 21 * l.length + 1 := by
  have hs : InvQ 0 { b := [], steps := 0, n := 128, bias := 72, done := 0 } := ⟨fun x hx => (by cases hx), Nat.le_refl _, fun h => absurd h (Nat.lt_irrefl _)⟩
  have key : ∀ (f : Nat) {st : EncS}, Inv1 l st → Inv1 l (encF (basB l).length l f st) := by
    intro f
    induction f with
    | zero => intro st h; exact h
    | succ f ih =>
      intro st h
      unfold encF
      split
      · rename_i hd; exact ih (out_inv hb h hd).1
      · exact h
  have e1 := key l.length (start_inv l)
  have hdl : (encF (basB l).length l l.length (startE l)).done ≤ l.length := by rw [e1.2.2.1]; exact List.countP_le_length
  have := e1.2.2.2.2.2
  show (encF (basB l).length l l.length (startE l)).b.length ≤ _
  omega
theorem ltoa_any (s : List UInt8) (w : World) (hl : s.length ≤ 1000) : Ret Tryz.prog 38 #[.string ⟨s.toArray⟩] w fun v w' => v = resA (toA s) ∧ Ext w w' := by
  have hE0 := Ext.refl w
  refine Ret.body Tryz.func38 rfl Tryz.ntmps38 rfl ?_
  by_cases ha : asciiL s
  · have hda : decide (asciiL s) = true := decide_eq_true ha
    by_cases hh : hostL s
    · have hdh : decide (hostL s) = true := decide_eq_true hh
      have hr : toA s = (lowS s, 0) := by unfold toA; rw [if_pos ha, if_pos hh]
      rw [hr]
      refine Cd.seq (Cd.region (Seg.step rfl rfl (Yd.assign rfl) (Seg.step rfl rfl (Yd.assign rfl) (Seg.nil (At.then_ (Cd.seq (Cd.seq ?_)))))))
      refine Cd.region (Seg.step rfl rfl (Yd.move rfl) ?_)
      (refine Seg.call rfl rfl (own_of rfl) rfl (lbasic_any s _ (by omega)) ?_; rw [hda]; rintro _ w11 ⟨rfl, hE11⟩)
      replace hE0 := Ext.trans hE0 hE11
      refine Seg.nil (At.then_ (Cd.condT rfl (Cd.seq (Cd.seq (Cd.region (Seg.step rfl rfl (Yd.move rfl) ?_))))))
      (refine Seg.call rfl rfl (own_of rfl) rfl (lhost_any s _ (by omega)) ?_; rw [hdh]; rintro _ w19 ⟨rfl, hE19⟩)
      replace hE11 := Ext.trans hE11 hE19
      replace hE0 := Ext.trans hE0 hE19
      refine Seg.step rfl rfl (Yd.not rfl) (Seg.nil (At.then_ (Cd.condF rfl (Cd.skip (At.then_ (Cd.seq (Cd.region ?_)))))))
      refine Seg.step rfl rfl (Yd.move rfl) ?_
      (refine Seg.call rfl rfl (own_of rfl) rfl (lower_any s _ (by omega)) ?_; rintro _ w29 ⟨rfl, hE29⟩)
      replace hE19 := Ext.trans hE19 hE29
      replace hE11 := Ext.trans hE11 hE29
      replace hE0 := Ext.trans hE0 hE29
      refine Seg.step rfl rfl (Yd.assign rfl) (Seg.step rfl rfl (Yd.assign rfl) (Seg.nil (At.then_ (Cd.ret (At.then_ret ?_)))))
      exact At.ret Tryz.results38 (.tmp rfl (.tmp rfl .nil)) ⟨rfl, hE0⟩
    · have hdh : decide (hostL s) = false := decide_eq_false hh
      have hr : toA s = ([], 7) := by unfold toA; rw [if_pos ha, if_neg hh]
      rw [hr]
      refine Cd.seq (Cd.region (Seg.step rfl rfl (Yd.assign rfl) (Seg.step rfl rfl (Yd.assign rfl) (Seg.nil (At.then_ (Cd.seq (Cd.seq ?_)))))))
      refine Cd.region (Seg.step rfl rfl (Yd.move rfl) ?_)
      (refine Seg.call rfl rfl (own_of rfl) rfl (lbasic_any s _ (by omega)) ?_; rw [hda]; rintro _ w11 ⟨rfl, hE11⟩)
      replace hE0 := Ext.trans hE0 hE11
      refine Seg.nil (At.then_ (Cd.condT rfl (Cd.seq (Cd.seq (Cd.region (Seg.step rfl rfl (Yd.move rfl) ?_))))))
      (refine Seg.call rfl rfl (own_of rfl) rfl (lhost_any s _ (by omega)) ?_; rw [hdh]; rintro _ w19 ⟨rfl, hE19⟩)
      replace hE11 := Ext.trans hE11 hE19
      replace hE0 := Ext.trans hE0 hE19
      refine Seg.step rfl rfl (Yd.not rfl) (Seg.nil (At.then_ (Cd.condT rfl (Cd.seq (Cd.region (Seg.step rfl rfl (Yd.assign rfl) (Seg.step rfl rfl (Yd.assign rfl) ?_)))))))
      refine Seg.nil (At.then_ (Cd.ret (At.then_ret (At.then_ret ?_))))
      exact At.ret Tryz.results38 (.tmp rfl (.tmp rfl .nil)) ⟨rfl, hE0⟩
  · have hda : decide (asciiL s) = false := decide_eq_false ha
    have hll : (lowS s).length ≤ 1000 := by rw [lowS_length]; exact hl
    have hrun := fun (w' : World) => runes_any (lowS s) w' (by omega)
    have hs0 : lowS s ≠ [] := fun h => ha (by
      have : s = [] := by unfold lowS at h; simpa using h
      subst this; intro b hb; cases hb)
    cases hR : runesB (lowS s) with
    | none =>
      have hr : toA s = ([], 5) := by unfold toA; rw [if_neg ha, hR]
      rw [hr]
      rw [hR] at hrun
      refine Cd.seq (Cd.region (Seg.step rfl rfl (Yd.assign rfl) (Seg.step rfl rfl (Yd.assign rfl) (Seg.nil (At.then_ (Cd.seq (Cd.seq ?_)))))))
      refine Cd.region (Seg.step rfl rfl (Yd.move rfl) ?_)
      (refine Seg.call rfl rfl (own_of rfl) rfl (lbasic_any s _ (by omega)) ?_; rw [hda]; rintro _ w11 ⟨rfl, hE11⟩)
      replace hE0 := Ext.trans hE0 hE11
      refine Seg.nil (At.then_ (Cd.condF rfl (Cd.skip (At.then_ (Cd.seq (Cd.region (Seg.step rfl rfl (Yd.move rfl) ?_)))))))
      (refine Seg.call rfl rfl (own_of rfl) rfl (lower_any s _ (by omega)) ?_; rintro _ w20 ⟨rfl, hE20⟩)
      replace hE11 := Ext.trans hE11 hE20
      replace hE0 := Ext.trans hE0 hE20
      (refine Seg.call rfl rfl (own_of rfl) rfl (hrun _) ?_; rintro _ w21 ⟨rfl, hE21⟩)
      replace hE20 := Ext.trans hE20 hE21
      replace hE11 := Ext.trans hE11 hE21
      replace hE0 := Ext.trans hE0 hE21
      refine Seg.step rfl rfl (Yd.move rfl) (Seg.step rfl rfl (Yd.extract rfl rfl) (Seg.step rfl rfl (Yd.extract rfl rfl) (Seg.step rfl rfl (Yd.assign rfl) (Seg.step rfl rfl (Yd.assign rfl) (Seg.nil (At.then_ (Cd.seq ?_)))))))
      refine Cd.seq (Cd.region (Seg.step rfl rfl (Yd.move rfl) (Seg.step rfl rfl (Yd.neq rfl rfl) (Seg.nil (At.then_ (Cd.condT rfl (Cd.seq ?_)))))))
      refine Cd.region (Seg.step rfl rfl (Yd.move rfl) (Seg.step rfl rfl (Yd.assign rfl) (Seg.step rfl rfl (Yd.assign rfl) (Seg.nil (At.then_ (Cd.ret (At.then_ret ?_)))))))
      exact At.ret Tryz.results38 (.tmp rfl (.tmp rfl .nil)) ⟨rfl, hE0⟩
    | some l =>
      rw [hR] at hrun
      obtain ⟨r1, r2⟩ := runesB_len hR
      have r3 := runesB_ne hR hs0
      have r4 : 1 ≤ l.length := List.length_pos_iff.2 r3
      have hcl : ∀ c ∈ l, c < 1114112 := fun c hc => by have := (r2 c hc).2.1; omega
      have hel := encP_len hcl
      have hxl : (xnB ++ encP l).length = 4 + (encP l).length := by rw [List.length_append]; rfl
      by_cases hm : mayL l
      · have hdm : decide (mayL l) = true := decide_eq_true hm
        by_cases h63 : (xnB ++ encP l).length ≤ 63
        · have hr : toA s = (xnB ++ encP l, 0) := by unfold toA; rw [if_neg ha, hR]; simp only; rw [if_pos hm, if_pos h63]
          rw [hr]
          refine Cd.seq (Cd.region (Seg.step rfl rfl (Yd.assign rfl) (Seg.step rfl rfl (Yd.assign rfl) (Seg.nil (At.then_ (Cd.seq (Cd.seq ?_)))))))
          refine Cd.region (Seg.step rfl rfl (Yd.move rfl) ?_)
          (refine Seg.call rfl rfl (own_of rfl) rfl (lbasic_any s _ (by omega)) ?_; rw [hda]; rintro _ w74 ⟨rfl, hE74⟩)
          replace hE0 := Ext.trans hE0 hE74
          refine Seg.nil (At.then_ (Cd.condF rfl (Cd.skip (At.then_ (Cd.seq (Cd.region (Seg.step rfl rfl (Yd.move rfl) ?_)))))))
          (refine Seg.call rfl rfl (own_of rfl) rfl (lower_any s _ (by omega)) ?_; rintro _ w83 ⟨rfl, hE83⟩)
          replace hE74 := Ext.trans hE74 hE83
          replace hE0 := Ext.trans hE0 hE83
          (refine Seg.call rfl rfl (own_of rfl) rfl (hrun _) ?_; rintro _ w84 ⟨⟨u, rfl, hU⟩, hE84⟩; have kU := own_sl hU)
          replace hE83 := Ext.trans hE83 hE84
          replace hE74 := Ext.trans hE74 hE84
          replace hE0 := Ext.trans hE0 hE84
          refine Seg.step rfl rfl (Yd.move rfl) (Seg.step rfl rfl (Yd.extract rfl rfl) (Seg.step rfl rfl (Yd.extract rfl rfl) (Seg.step rfl rfl (Yd.assign rfl) (Seg.step rfl rfl (Yd.assign rfl) (Seg.nil (At.then_ (Cd.seq ?_)))))))
          refine Cd.seq (Cd.region (Seg.step rfl rfl (Yd.move rfl) (Seg.step rfl rfl (Yd.neq rfl rfl) (Seg.nil (At.then_ (Cd.condF rfl (Cd.skip ?_)))))))
          refine At.then_ (Cd.seq (Cd.seq (Cd.region (Seg.step rfl rfl (Yd.move rfl) ?_))))
          (refine Seg.call rfl rfl (own_of rfl) rfl (lmay_any l u _ kU (by omega) r4) ?_; rw [hdm]; rintro _ w106 ⟨rfl, hE106⟩)
          replace hE84 := Ext.trans hE84 hE106
          replace kU := kU.ext hE106
          replace hE83 := Ext.trans hE83 hE106
          replace hE74 := Ext.trans hE74 hE106
          replace hE0 := Ext.trans hE0 hE106
          refine Seg.step rfl rfl (Yd.not rfl) (Seg.nil (At.then_ (Cd.condF rfl (Cd.skip (At.then_ (Cd.seq (Cd.region ?_)))))))
          refine Seg.step rfl rfl (Yd.move rfl) ?_
          (refine Seg.call rfl rfl (own_of rfl) rfl (pencode_any l u _ kU (by omega) hcl) ?_; rintro _ w116 ⟨rfl, hE116⟩)
          replace hE106 := Ext.trans hE106 hE116
          replace hE84 := Ext.trans hE84 hE116
          replace kU := kU.ext hE116
          replace hE83 := Ext.trans hE83 hE116
          replace hE74 := Ext.trans hE74 hE116
          replace hE0 := Ext.trans hE0 hE116
          refine Seg.step rfl rfl (Yd.move rfl) (Seg.step rfl rfl (Yd.extract rfl rfl) (Seg.step rfl rfl (Yd.extract rfl rfl) (Seg.step rfl rfl (Yd.assign rfl) (Seg.step rfl rfl (Yd.assign rfl) (Seg.nil (At.then_ (Cd.seq ?_)))))))
          refine Cd.seq (Cd.region (Seg.step rfl rfl (Yd.move rfl) (Seg.step rfl rfl (Yd.neq rfl rfl) (Seg.nil (At.then_ (Cd.condF rfl (Cd.skip ?_)))))))
          refine At.then_ (Cd.seq (Cd.region (Seg.step rfl rfl (Yd.move rfl) ?_)))
          refine Seg.step rfl rfl (Yd.addS (l := xnB) rfl rfl (by show 4 + _ ≤ _; omega)) ?_
          refine Seg.step rfl rfl (Yd.assign rfl) (Seg.nil (At.then_ (Cd.seq (Cd.seq (Cd.region (Seg.step rfl rfl (Yd.move rfl) (Seg.step rfl rfl (Yd.lenStr rfl rfl) ?_)))))))
          refine Seg.step rfl rfl (Yd.gtr rfl rfl) (Seg.nil (At.then_ ?_))
          refine Cd.condk rfl (fun h149 => ?_) (fun h149 => ?_)
          · exfalso; omega
          · refine Cd.skip (At.then_ (Cd.seq (Cd.region (Seg.step rfl rfl (Yd.move rfl) (Seg.step rfl rfl (Yd.assign rfl) (Seg.step rfl rfl (Yd.assign rfl) (Seg.nil ?_)))))))
            refine At.then_ (Cd.ret ?_)
            exact At.ret Tryz.results38 (.tmp rfl (.tmp rfl .nil)) ⟨rfl, hE0⟩
        · have hr : toA s = ([], 7) := by unfold toA; rw [if_neg ha, hR]; simp only; rw [if_pos hm, if_neg h63]
          rw [hr]
          refine Cd.seq (Cd.region (Seg.step rfl rfl (Yd.assign rfl) (Seg.step rfl rfl (Yd.assign rfl) (Seg.nil (At.then_ (Cd.seq (Cd.seq ?_)))))))
          refine Cd.region (Seg.step rfl rfl (Yd.move rfl) ?_)
          (refine Seg.call rfl rfl (own_of rfl) rfl (lbasic_any s _ (by omega)) ?_; rw [hda]; rintro _ w74 ⟨rfl, hE74⟩)
          replace hE0 := Ext.trans hE0 hE74
          refine Seg.nil (At.then_ (Cd.condF rfl (Cd.skip (At.then_ (Cd.seq (Cd.region (Seg.step rfl rfl (Yd.move rfl) ?_)))))))
          (refine Seg.call rfl rfl (own_of rfl) rfl (lower_any s _ (by omega)) ?_; rintro _ w83 ⟨rfl, hE83⟩)
          replace hE74 := Ext.trans hE74 hE83
          replace hE0 := Ext.trans hE0 hE83
          (refine Seg.call rfl rfl (own_of rfl) rfl (hrun _) ?_; rintro _ w84 ⟨⟨u, rfl, hU⟩, hE84⟩; have kU := own_sl hU)
          replace hE83 := Ext.trans hE83 hE84
          replace hE74 := Ext.trans hE74 hE84
          replace hE0 := Ext.trans hE0 hE84
          refine Seg.step rfl rfl (Yd.move rfl) (Seg.step rfl rfl (Yd.extract rfl rfl) (Seg.step rfl rfl (Yd.extract rfl rfl) (Seg.step rfl rfl (Yd.assign rfl) (Seg.step rfl rfl (Yd.assign rfl) (Seg.nil (At.then_ (Cd.seq ?_)))))))
          refine Cd.seq (Cd.region (Seg.step rfl rfl (Yd.move rfl) (Seg.step rfl rfl (Yd.neq rfl rfl) (Seg.nil (At.then_ (Cd.condF rfl (Cd.skip ?_)))))))
          refine At.then_ (Cd.seq (Cd.seq (Cd.region (Seg.step rfl rfl (Yd.move rfl) ?_))))
          (refine Seg.call rfl rfl (own_of rfl) rfl (lmay_any l u _ kU (by omega) r4) ?_; rw [hdm]; rintro _ w106 ⟨rfl, hE106⟩)
          replace hE84 := Ext.trans hE84 hE106
          replace kU := kU.ext hE106
          replace hE83 := Ext.trans hE83 hE106
          replace hE74 := Ext.trans hE74 hE106
          replace hE0 := Ext.trans hE0 hE106
          refine Seg.step rfl rfl (Yd.not rfl) (Seg.nil (At.then_ (Cd.condF rfl (Cd.skip (At.then_ (Cd.seq (Cd.region ?_)))))))
          refine Seg.step rfl rfl (Yd.move rfl) ?_
          (refine Seg.call rfl rfl (own_of rfl) rfl (pencode_any l u _ kU (by omega) hcl) ?_; rintro _ w116 ⟨rfl, hE116⟩)
          replace hE106 := Ext.trans hE106 hE116
          replace hE84 := Ext.trans hE84 hE116
          replace kU := kU.ext hE116
          replace hE83 := Ext.trans hE83 hE116
          replace hE74 := Ext.trans hE74 hE116
          replace hE0 := Ext.trans hE0 hE116
          refine Seg.step rfl rfl (Yd.move rfl) (Seg.step rfl rfl (Yd.extract rfl rfl) (Seg.step rfl rfl (Yd.extract rfl rfl) (Seg.step rfl rfl (Yd.assign rfl) (Seg.step rfl rfl (Yd.assign rfl) (Seg.nil (At.then_ (Cd.seq ?_)))))))
          refine Cd.seq (Cd.region (Seg.step rfl rfl (Yd.move rfl) (Seg.step rfl rfl (Yd.neq rfl rfl) (Seg.nil (At.then_ (Cd.condF rfl (Cd.skip ?_)))))))
          refine At.then_ (Cd.seq (Cd.region (Seg.step rfl rfl (Yd.move rfl) ?_)))
          refine Seg.step rfl rfl (Yd.addS (l := xnB) rfl rfl (by show 4 + _ ≤ _; omega)) ?_
          refine Seg.step rfl rfl (Yd.assign rfl) (Seg.nil (At.then_ (Cd.seq (Cd.seq (Cd.region (Seg.step rfl rfl (Yd.move rfl) (Seg.step rfl rfl (Yd.lenStr rfl rfl) ?_)))))))
          refine Seg.step rfl rfl (Yd.gtr rfl rfl) (Seg.nil (At.then_ ?_))
          refine Cd.condk rfl (fun h149 => ?_) (fun h149 => ?_)
          · refine Cd.seq (Cd.region (Seg.step rfl rfl (Yd.assign rfl) (Seg.step rfl rfl (Yd.assign rfl) (Seg.nil (At.then_ (Cd.ret (At.then_ret ?_)))))))
            exact At.ret Tryz.results38 (.tmp rfl (.tmp rfl .nil)) ⟨rfl, hE0⟩
          · exfalso; omega
      · have hdm : decide (mayL l) = false := decide_eq_false hm
        have hr : toA s = ([], 7) := by unfold toA; rw [if_neg ha, hR]; simp only; rw [if_neg hm]
        rw [hr]
        refine Cd.seq (Cd.region (Seg.step rfl rfl (Yd.assign rfl) (Seg.step rfl rfl (Yd.assign rfl) (Seg.nil (At.then_ (Cd.seq (Cd.seq ?_)))))))
        refine Cd.region (Seg.step rfl rfl (Yd.move rfl) ?_)
        (refine Seg.call rfl rfl (own_of rfl) rfl (lbasic_any s _ (by omega)) ?_; rw [hda]; rintro _ w11 ⟨rfl, hE11⟩)
        replace hE0 := Ext.trans hE0 hE11
        refine Seg.nil (At.then_ (Cd.condF rfl (Cd.skip (At.then_ (Cd.seq (Cd.region (Seg.step rfl rfl (Yd.move rfl) ?_)))))))
        (refine Seg.call rfl rfl (own_of rfl) rfl (lower_any s _ (by omega)) ?_; rintro _ w20 ⟨rfl, hE20⟩)
        replace hE11 := Ext.trans hE11 hE20
        replace hE0 := Ext.trans hE0 hE20
        (refine Seg.call rfl rfl (own_of rfl) rfl (hrun _) ?_; rintro _ w21 ⟨⟨u, rfl, hU⟩, hE21⟩; have kU := own_sl hU)
        replace hE20 := Ext.trans hE20 hE21
        replace hE11 := Ext.trans hE11 hE21
        replace hE0 := Ext.trans hE0 hE21
        refine Seg.step rfl rfl (Yd.move rfl) (Seg.step rfl rfl (Yd.extract rfl rfl) (Seg.step rfl rfl (Yd.extract rfl rfl) (Seg.step rfl rfl (Yd.assign rfl) (Seg.step rfl rfl (Yd.assign rfl) (Seg.nil (At.then_ (Cd.seq ?_)))))))
        refine Cd.seq (Cd.region (Seg.step rfl rfl (Yd.move rfl) (Seg.step rfl rfl (Yd.neq rfl rfl) (Seg.nil (At.then_ (Cd.condF rfl (Cd.skip ?_)))))))
        refine At.then_ (Cd.seq (Cd.seq (Cd.region (Seg.step rfl rfl (Yd.move rfl) ?_))))
        (refine Seg.call rfl rfl (own_of rfl) rfl (lmay_any l u _ kU (by omega) r4) ?_; rw [hdm]; rintro _ w43 ⟨rfl, hE43⟩)
        replace hE21 := Ext.trans hE21 hE43
        replace kU := kU.ext hE43
        replace hE20 := Ext.trans hE20 hE43
        replace hE11 := Ext.trans hE11 hE43
        replace hE0 := Ext.trans hE0 hE43
        refine Seg.step rfl rfl (Yd.not rfl) (Seg.nil (At.then_ (Cd.condT rfl (Cd.seq (Cd.region (Seg.step rfl rfl (Yd.assign rfl) (Seg.step rfl rfl (Yd.assign rfl) ?_)))))))
        refine Seg.nil (At.then_ (Cd.ret (At.then_ret ?_)))
        exact At.ret Tryz.results38 (.tmp rfl (.tmp rfl .nil)) ⟨rfl, hE0⟩
end Go.Proofs.YtahpiaaffeiadaaGreat
