/- Names of hosts, written and read: package domain, where all letters are plain. -/
import Derived.Test.YtahpiaaffeiadaaGreatDoorEas
namespace Go.Proofs.YtahpiaaffeiadaaGreatDoor
open Go Go.RowKit
/-- Bytes of one's own. -/
abbrev OwnB (w : World) (base : Nat) (v : Value) (l : List UInt8) : Prop := w.ownsRow base 5 1 v l.length (bytesV l)
theorem own_snoc {w : World} {base : Nat} {v : Value} {l m : List UInt8} (h : w.ownsRow base 5 (0 + 1) v (l.length + m.length) (bytesV l ++ bytesV m)) : OwnB w base v (l ++ m) := by
  unfold OwnB
  rw [List.length_append, bytesV_append]; exact h
/-- 'append' onto bytes of one's own. -/
theorem Seg.appB {n : Fm} {ops : Array Oper} {Q : Exit → Act → World → Prop} {fr : Fr} {w : World} {T : TypeId} {d U base : Nat} {x y : Operand} {pos : String} {aft : Array Edge} {g : Option (Nat × Bool)} {rest : List Oper} {v u : Value} {X m : List UInt8}
    (hg : gd ops fr g = some true) (hd : Nat.blt d n.n = true) (hU : slOf Tryz.prog U = some (5, 0 + 1)) (hx : Fr.ev fr x = some v) (hy : Fr.ev fr y = some u) (ho : OwnB w base v X) (hs : Sl w (0 + 1) u m.length (bytesV m)) (hb : base ≤ w.heap.size) (hl : X.length + m.length ≤ 100000000)
    (k : ∀ v' w1, OwnB w1 base v' (X ++ m) → w.grownBy w1 v.ownBlock → (∀ a0 : World, Ext a0 w → a0.heap.size ≤ base → Ext a0 w1) → w.heap.size ≤ w1.heap.size → (v'.ownBlock = v.ownBlock ∨ v'.ownBlock = some w.heap.size) → Seg Tryz.prog n ops Q rest ((d, v') :: fr) w1) :
    Seg Tryz.prog n ops Q (⟨some d, .call ⟨.builtin .append, #[x, y], #[U, U]⟩, T, pos, aft, g⟩ :: rest) fr w :=
  Seg.appendAt (xs := bytesV X) (news := bytesV m) hg hd hU rfl rfl rfl rfl hx hy ho hs (bytesV_one m) hb hl rfl fun v' w1 hN hG hA =>
    k v' w1 (own_snoc hN) hG (fun _ hE h => Ext.own hE ho h hG) hG.size hA
theorem plain_in {c : UInt8} (h : plainI (c.toNat : Int)) : ¬ (c.toNat : Int) = 46 ∧ ¬ (c.toNat : Int) = 92 ∧ ¬ (c.toNat : Int) < 33 ∧ ¬ 126 < (c.toNat : Int) := by
  unfold plainI at h; omega
theorem dadd_any (a0 : World) (base : Nat) (xs l : List UInt8) (v0 : Value) (w : World) (ho : OwnB w base v0 xs) (hb : base ≤ w.heap.size) (hab : a0.heap.size ≤ base) (ha : Ext a0 w) (hp : ∀ b ∈ l, plainI (b.toNat : Int)) (hl : xs.length + l.length ≤ 1000000) :
    Ret Tryz.prog 35 #[v0, .string ⟨l.toArray⟩] w fun v w' => OwnB w' base v (xs ++ l) ∧ Ext a0 w' ∧ w.heap.size ≤ w'.heap.size := by
  have hE0 := ha
  refine Ret.body Tryz.func35 rfl Tryz.ntmps35 rfl ?_
  refine Cd.seq ?_
  refine Cd.region ?_
  refine Seg.step rfl rfl (Yd.assign rfl) ?_
  refine Seg.nil ?_
  refine At.then_ ?_
  refine Cd.seq ?_
  refine Cd.seq ?_
  refine Cd.region ?_
  refine Seg.step rfl rfl (Yd.move rfl) ?_
  refine Seg.step rfl rfl (Yd.lenStr rfl rfl) ?_
  refine Seg.step rfl rfl (Yd.move rfl) ?_
  refine Seg.nil ?_
  refine At.then_ ?_
  refine Cd.block ?_
  refine Cd.loop (σ := Nat × Value) (fun t => [(0, t.2), (1, .string ⟨l.toArray⟩), (8, .int .i64 (l.length : Int)), (9, .int .i64 (t.1 : Int))])
    (fun t w' => t.1 ≤ l.length ∧ OwnB w' base t.2 (xs ++ l.take t.1) ∧ Ext a0 w' ∧ w.heap.size ≤ w'.heap.size) (fun t => l.length - t.1) (0, v0) (.cons rfl (.cons rfl (.cons rfl (.cons rfl (.nil _))))) ⟨Nat.zero_le _, by rw [List.take_zero, List.append_nil]; exact ho, hE0, Nat.le_refl _⟩ ?_
  clear hE0
  rintro ⟨i, v⟩ w1 ⟨hi, hO, hE1, hsz⟩
  simp only at hi hO ⊢
  have kO : Keep (OwnB w1 base v (xs ++ l.take i)) := hO
  have kE1 : Keep (Ext a0 w1) := hE1
  have hEn := Ext.refl w1
  clear hO hE1
  by_cases hlt : i < l.length
  · have hmem : l.getD i 0 ∈ l := List.mem_of_getElem? (getD_at hlt)
    obtain ⟨p1, p2, p3, p4⟩ := plain_in (hp _ hmem)
    have hxl : (xs ++ l.take i).length ≤ 1000000 := by rw [List.length_append, List.length_take]; omega
    have hsn : xs ++ l.take (i + 1) = (xs ++ l.take i) ++ [l.getD i 0] := by rw [take_get hlt, List.append_assoc]
    refine Cd.seq ?_
    refine Cd.region ?_
    refine Seg.step rfl rfl (Yd.lss rfl rfl) ?_
    refine Seg.nil ?_
    refine At.then_ ?_
    refine Cd.seq ?_
    refine Cd.condk rfl (fun h8 => ?_) (fun h8 => ?_)
    · refine Cd.skip ?_
      refine At.then_ ?_
      refine Cd.seq ?_
      refine Cd.block ?_
      refine Cd.seq ?_
      refine Cd.region ?_
      refine Seg.step rfl rfl (Yd.move rfl) ?_
      refine Seg.step rfl rfl (Yd.assign rfl) ?_
      refine Seg.nil ?_
      refine At.then_ ?_
      refine Cd.seq ?_
      refine Cd.region ?_
      refine Seg.step rfl rfl (Yd.move rfl) ?_
      refine Seg.step rfl rfl (Yd.move rfl) ?_
      refine Seg.step rfl rfl (Yd.indexStr rfl rfl rfl (NatOf.cast _) (by omega)) ?_
      refine Seg.step rfl rfl (Yd.assign rfl) ?_
      refine Seg.nil ?_
      refine At.then_ ?_
      refine Cd.block ?_
      refine Cd.seq ?_
      refine Cd.region ?_
      refine Seg.step rfl rfl (Yd.move rfl) ?_
      refine Seg.step rfl rfl (Yd.eql rfl rfl) ?_
      refine Seg.step rfl rfl (Yd.move rfl) ?_
      refine Seg.gsplitp rfl rfl (fun h34 => ?_) (fun h34 => ?_)
      · exfalso; omega
      · refine Seg.step rfl rfl (Yd.move rfl) ?_
        refine Seg.step rfl rfl (Yd.eql rfl rfl) ?_
        refine Seg.step rfl rfl (Yd.pickF rfl rfl) ?_
        refine Seg.step rfl rfl (Yd.assign rfl) ?_
        refine Seg.nil ?_
        refine At.then_ ?_
        refine Cd.condk rfl (fun h42 => ?_) (fun h42 => ?_)
        · exfalso; omega
        · refine Cd.seq ?_
          refine Cd.region ?_
          refine Seg.step rfl rfl (Yd.move rfl) ?_
          refine Seg.step rfl rfl (Yd.lss rfl rfl) ?_
          refine Seg.step rfl rfl (Yd.move rfl) ?_
          refine Seg.gsplitp rfl rfl (fun h49 => ?_) (fun h49 => ?_)
          · exfalso; omega
          · refine Seg.step rfl rfl (Yd.move rfl) ?_
            refine Seg.step rfl rfl (Yd.gtr rfl rfl) ?_
            refine Seg.step rfl rfl (Yd.pickF rfl rfl) ?_
            refine Seg.step rfl rfl (Yd.assign rfl) ?_
            refine Seg.nil ?_
            refine At.then_ ?_
            refine Cd.condk rfl (fun h57 => ?_) (fun h57 => ?_)
            · exfalso; omega
            · refine Cd.region ?_
              refine Seg.step rfl rfl (Yd.move rfl) ?_
              refine Seg.step rfl rfl (Yd.move rfl) ?_
              refine Seg.buildSliceV rfl rfl rfl rfl rfl rfl rfl rfl rfl rfl (fun w62 b62 hE62 hB62 hb62 hO62 => ?_)
              have hlt62_0 := Nat.le_trans hEn.size hb62
              replace hEn := Ext.trans hEn hE62
              (refine Seg.appB (m := [l.getD i 0]) rfl rfl rfl rfl rfl (own_ext kO hEn) (own_sl (by assumption)) (by have := Below.size hEn; omega) (by show _ + 1 ≤ _; omega) (fun v63 w63 hO63 _ hX63 hS63 _ => ?_); have hE1 := hX63 a0 (Ext.trans kE1 hEn) hab; have hs1 := Nat.le_trans (Nat.le_trans hsz (Below.size hEn)) hS63)
              refine Seg.step rfl rfl (Yd.assign rfl) ?_
              refine Seg.nil ?_
              refine At.blk ?_
              refine At.blk ?_
              refine At.then_ ?_
              refine Cd.region ?_
              refine Seg.step rfl rfl (Yd.addI rfl rfl (by omega)) ?_
              refine Seg.step rfl rfl (Yd.move rfl) ?_
              refine Seg.nil ?_
              exact At.round (i + 1, _) (.cons rfl (.cons rfl (.cons rfl (.cons rfl (.nil _))))) ⟨hlt, by rw [hsn]; assumption, hE1, hs1⟩ (Nat.sub_lt_sub_left hlt (Nat.lt_succ_self i))
    · exfalso; omega
  · have hil : l.take i = l := List.take_of_length_le (by omega)
    rw [hil] at kO
    refine Cd.seq ?_
    refine Cd.region ?_
    refine Seg.step rfl rfl (Yd.lss rfl rfl) ?_
    refine Seg.nil ?_
    refine At.then_ ?_
    refine Cd.seq ?_
    refine Cd.condk rfl (fun h8 => ?_) (fun h8 => ?_)
    · exfalso; omega
    · refine Cd.exit ?_
      refine At.then_exit ?_
      refine At.then_exit ?_
      refine At.blk_same ?_
      refine At.then_ ?_
      refine Cd.seq ?_
      refine Cd.region ?_
      refine Seg.step rfl rfl (Yd.move rfl) ?_
      refine Seg.step rfl rfl (Yd.assign rfl) ?_
      refine Seg.nil ?_
      refine At.then_ ?_
      refine Cd.ret ?_
      exact At.ret Tryz.results35 (.tmp rfl .nil) ⟨own_ext kO hEn, Ext.trans kE1 hEn, by have := Below.size hEn; omega⟩
/-- A name, written. -/
def dotN (n : List (List UInt8)) : List UInt8 := n.flatMap fun l => l ++ [46]
theorem dotN_snoc (n : List (List UInt8)) (l : List UInt8) : dotN (n ++ [l]) = dotN n ++ l ++ [46] := by simp [dotN]
theorem dotN_len (n : List (List UInt8)) : (dotN n).length + 1 = szN n := by
  unfold szN dotN
  induction n with
  | nil => rfl
  | cons l n ih => simp at ih ⊢; omega
def plainN (n : List (List UInt8)) : Prop := ∀ l ∈ n, ∀ b ∈ l, plainI (b.toNat : Int)
theorem dtext_any (n : List (List UInt8)) (v0 : Value) (w : World) (h0 : NameAt w v0 n) (hp : plainN n) (hn : n ≠ []) (hz : szN n ≤ 1000) : Ret Tryz.prog 11 #[v0] w fun v w' => v = .string ⟨(dotN n).toArray⟩ ∧ Ext w w' := by
  have hE0 := Ext.refl w
  obtain ⟨ao, c, rfl, hl0, hr0, hz0⟩ := h0
  have hnl := szN_len n
  have hnp : 0 < n.length := List.length_pos_iff.2 hn
  refine Ret.body Tryz.func11 rfl Tryz.ntmps11 rfl ?_
  refine Cd.seq ?_
  refine Cd.region ?_
  refine Seg.step rfl rfl (Yd.assign rfl) ?_
  refine Seg.nil ?_
  refine At.then_ ?_
  refine Cd.seq ?_
  refine Cd.seq ?_
  refine Cd.region ?_
  refine Seg.step rfl rfl (Yd.move rfl) ?_
  refine Seg.step rfl rfl (Yd.lenS rfl rfl) ?_
  refine Seg.step rfl rfl (Yd.eql rfl rfl) ?_
  refine Seg.nil ?_
  refine At.then_ ?_
  refine Cd.condk rfl (fun h14 => ?_) (fun h14 => ?_)
  · exfalso; omega
  refine Cd.skip ?_
  refine At.then_ ?_
  refine Cd.seq ?_
  refine Cd.region ?_
  refine Seg.step rfl rfl (Yd.assign rfl) ?_
  refine Seg.nil ?_
  refine At.then_ ?_
  refine Cd.seq ?_
  refine Cd.seq ?_
  refine Cd.region ?_
  refine Seg.step rfl rfl (Yd.move rfl) ?_
  refine Seg.step rfl rfl (Yd.lenS rfl rfl) ?_
  refine Seg.step rfl rfl (Yd.move rfl) ?_
  refine Seg.nil ?_
  refine At.then_ ?_
  refine Cd.block ?_
  refine Cd.loop (σ := Nat × Value) (fun t => [(3, t.2), (9, .slice ao n.length c), (10, .int .i64 (n.length : Int)), (11, .int .i64 (t.1 : Int))])
    (fun t w' => t.1 ≤ n.length ∧ OwnB w' w.heap.size t.2 (dotN (n.take t.1)) ∧ Ext w w') (fun t => n.length - t.1) (0, .slice none 0 0) (.cons rfl (.cons rfl (.cons rfl (.cons rfl (.nil _))))) ⟨Nat.zero_le _, World.ownsRow_nil _ _ _ _, hE0⟩ ?_
  clear hE0
  rintro ⟨i, v⟩ w1 ⟨hi, hO, hE1⟩
  simp only at hi hO ⊢
  have kO : Keep (OwnB w1 w.heap.size v (dotN (n.take i))) := hO
  have kE1 : Keep (Ext w w1) := hE1
  have hEn := Ext.refl w1
  clear hO
  by_cases hlt : i < n.length
  · obtain ⟨a, rfl⟩ : ∃ a, ao = some a := by
      cases ao with
      | none => have := hz0 rfl; omega
      | some a => exact ⟨a, rfl⟩
    have hr0 := hr0 a rfl
    obtain ⟨l, hl⟩ : ∃ l, n[i]? = some l := ⟨_, List.getElem?_eq_getElem hlt⟩
    have hmem := List.mem_of_getElem? hl
    have hst : n.take (i + 1) = n.take i ++ [l] := by rw [List.take_add_one, hl]; rfl
    have hsz := szN_take hl
    have hle := szN_le n (i + 1)
    have hdl := dotN_len (n.take i)
    have hdn : dotN (n.take (i + 1)) = dotN (n.take i) ++ l ++ [46] := by rw [hst, dotN_snoc]
    refine Cd.seq ?_
    refine Cd.region ?_
    refine Seg.step rfl rfl (Yd.lss rfl rfl) ?_
    refine Seg.nil ?_
    refine At.then_ ?_
    refine Cd.seq ?_
    refine Cd.condk rfl (fun h21 => ?_) (fun h21 => ?_)
    · refine Cd.skip ?_
      refine At.then_ ?_
      refine Cd.seq ?_
      refine Cd.block ?_
      refine Cd.seq ?_
      refine Cd.region ?_
      refine Seg.step rfl rfl (Yd.indexAddr1 rfl rfl rfl (NatOf.cast _) (by omega)) ?_
      refine Seg.step rfl rfl (Yd.load1 rfl rfl ((hr0.ext hE1) _ _ (strV_at hl))) ?_
      refine Seg.step rfl rfl (Yd.assign rfl) ?_
      refine Seg.nil ?_
      refine At.then_ ?_
      refine Cd.region ?_
      refine Seg.step rfl rfl (Yd.move rfl) ?_
      refine Seg.step rfl rfl (Yd.move rfl) ?_
      (refine Seg.call rfl rfl (own_of rfl) rfl (dadd_any w w.heap.size (dotN (n.take i)) l v _ (own_ext kO hEn) (Below.size (Ext.trans kE1 hEn)) (Nat.le_refl _) (Ext.trans kE1 hEn) (hp l hmem) (by omega)) ?_; rintro v2 w37 ⟨hO2, hE2, _⟩; have hEm := Ext.refl w37; clear hEn)
      refine Seg.buildSliceV rfl rfl rfl rfl rfl rfl rfl rfl rfl rfl (fun w38 b38 hE38 hB38 hb38 hO38 => ?_)
      have hlt38_0 := Nat.le_trans hE2.size hb38
      have hlt38_1 := Nat.le_trans hEm.size hb38
      replace hE2 := Ext.trans hE2 hE38
      replace hEm := Ext.trans hEm hE38
      (refine Seg.appB (m := [46]) rfl rfl rfl rfl rfl (own_ext hO2 hEm) (own_sl (by assumption)) (Below.size hE2) (by rw [List.length_append]; show _ + 1 ≤ _; omega) (fun v39 w39 hO39 _ hX39 hS39 _ => ?_); have hE3 := hX39 w hE2 (Nat.le_refl _))
      refine Seg.step rfl rfl (Yd.assign rfl) ?_
      refine Seg.nil ?_
      refine At.blk ?_
      refine At.then_ ?_
      refine Cd.region ?_
      refine Seg.step rfl rfl (Yd.addI rfl rfl (by omega)) ?_
      refine Seg.step rfl rfl (Yd.move rfl) ?_
      refine Seg.nil ?_
      exact At.round (i + 1, _) (.cons rfl (.cons rfl (.cons rfl (.cons rfl (.nil _))))) ⟨hlt, by rw [hdn]; assumption, hE3⟩ (Nat.sub_lt_sub_left hlt (Nat.lt_succ_self i))
    · exfalso; omega
  · have hil : n.take i = n := List.take_of_length_le (by omega)
    rw [hil] at kO
    refine Cd.seq ?_
    refine Cd.region ?_
    refine Seg.step rfl rfl (Yd.lss rfl rfl) ?_
    refine Seg.nil ?_
    refine At.then_ ?_
    refine Cd.seq ?_
    refine Cd.condk rfl (fun h21 => ?_) (fun h21 => ?_)
    · exfalso; omega
    · refine Cd.exit ?_
      refine At.then_exit ?_
      refine At.then_exit ?_
      refine At.blk_same ?_
      refine At.then_ ?_
      refine Cd.seq ?_
      refine Cd.region ?_
      refine Seg.step rfl rfl (Yd.move rfl) ?_
      (refine Seg.step rfl rfl (Yd.bts (l := dotN n) rfl rfl rfl rfl (own_sl (own_ext kO hEn))) ?_)
      refine Seg.step rfl rfl (Yd.assign rfl) ?_
      refine Seg.nil ?_
      refine At.then_ ?_
      refine Cd.ret ?_
      exact At.ret Tryz.results11 (.tmp rfl .nil) ⟨rfl, Ext.trans kE1 hEn⟩
theorem dotN_pos {n : List (List UInt8)} (hn : n ≠ []) : 1 ≤ (dotN n).length := by
  cases n with
  | nil => exact absurd rfl hn
  | cons l n => simp [dotN]; omega
theorem dplain_any (n : List (List UInt8)) (v0 : Value) (w : World) (h0 : NameAt w v0 n) (hp : plainN n) (hn : n ≠ []) (hz : szN n ≤ 1000) : Ret Tryz.prog 10 #[v0] w fun v w' => v = .string ⟨(dotN n).dropLast.toArray⟩ ∧ Ext w w' := by
  have hE0 := Ext.refl w
  have kS : Keep (NameAt w v0 n) := h0
  obtain ⟨ao, c, rfl, hl0, hr0, hz0⟩ := h0
  have hnp : 0 < n.length := List.length_pos_iff.2 hn
  have hdp := dotN_pos hn
  have hdl := dotN_len n
  have hdd : (dotN n).take ((dotN n).length - 1) = (dotN n).dropLast := by rw [List.dropLast_eq_take]
  refine Ret.body Tryz.func10 rfl Tryz.ntmps10 rfl ?_
  refine Cd.seq ?_
  refine Cd.region ?_
  refine Seg.step rfl rfl (Yd.assign rfl) ?_
  refine Seg.nil ?_
  refine At.then_ ?_
  refine Cd.seq ?_
  refine Cd.region ?_
  refine Seg.step rfl rfl (Yd.move rfl) ?_
  (refine Seg.call rfl rfl (own_of rfl) rfl (dtext_any n _ _ (Sl.ext kS hE0) hp hn hz) ?_; rintro _ w9 ⟨rfl, hE9⟩)
  replace hE0 := Ext.trans hE0 hE9
  refine Seg.step rfl rfl (Yd.assign rfl) ?_
  refine Seg.nil ?_
  refine At.then_ ?_
  refine Cd.seq ?_
  refine Cd.seq ?_
  refine Cd.region ?_
  refine Seg.step rfl rfl (Yd.move rfl) ?_
  refine Seg.step rfl rfl (Yd.lenS rfl rfl) ?_
  refine Seg.step rfl rfl (Yd.eql rfl rfl) ?_
  refine Seg.nil ?_
  refine At.then_ ?_
  refine Cd.condk rfl (fun h21 => ?_) (fun h21 => ?_)
  · exfalso; omega
  · refine Cd.skip ?_
    refine At.then_ ?_
    refine Cd.seq ?_
    refine Cd.region ?_
    refine Seg.step rfl rfl (Yd.move rfl) ?_
    refine Seg.step rfl rfl (Yd.move rfl) ?_
    refine Seg.step rfl rfl (Yd.lenStr rfl rfl) ?_
    refine Seg.step rfl rfl (Yd.subI rfl rfl (by omega)) ?_
    refine Seg.step rfl rfl (Yd.slStrH rfl rfl rfl (NatOf.sub (NatOf.cast _) (NatOf.cast 1) (by omega)) (by omega)) ?_
    refine Seg.step rfl rfl (Yd.assign rfl) ?_
    refine Seg.nil ?_
    refine At.then_ ?_
    refine Cd.ret ?_
    exact At.ret Tryz.results10 (.tmp rfl .nil) ⟨by rw [← hdd]; rfl, hE0⟩
/-- Texts of one's own. -/
abbrev OwnS (w : World) (base : Nat) (v : Value) (n : List (List UInt8)) : Prop := w.ownsRow base 9 1 v n.length (strV n)
theorem owns_snoc {w : World} {base : Nat} {v : Value} {l m : List (List UInt8)} (h : w.ownsRow base 9 (0 + 1) v (l.length + m.length) (strV l ++ strV m)) : OwnS w base v (l ++ m) := by
  unfold OwnS
  rw [List.length_append, strV_append]; exact h
/-- 'append' onto texts of one's own. -/
theorem Seg.appS {n : Fm} {ops : Array Oper} {Q : Exit → Act → World → Prop} {fr : Fr} {w : World} {T : TypeId} {d U base : Nat} {x y : Operand} {pos : String} {aft : Array Edge} {g : Option (Nat × Bool)} {rest : List Oper} {v u : Value} {X m : List (List UInt8)}
    (hg : gd ops fr g = some true) (hd : Nat.blt d n.n = true) (hU : slOf Tryz.prog U = some (9, 0 + 1)) (hx : Fr.ev fr x = some v) (hy : Fr.ev fr y = some u) (ho : OwnS w base v X) (hs : Sl w (0 + 1) u m.length (strV m)) (hb : base ≤ w.heap.size) (hl : X.length + m.length ≤ 100000000)
    (k : ∀ v' w1, OwnS w1 base v' (X ++ m) → w.grownBy w1 v.ownBlock → (∀ a0 : World, Ext a0 w → a0.heap.size ≤ base → Ext a0 w1) → w.heap.size ≤ w1.heap.size → (v'.ownBlock = v.ownBlock ∨ v'.ownBlock = some w.heap.size) → Seg Tryz.prog n ops Q rest ((d, v') :: fr) w1) :
    Seg Tryz.prog n ops Q (⟨some d, .call ⟨.builtin .append, #[x, y], #[U, U]⟩, T, pos, aft, g⟩ :: rest) fr w :=
  Seg.appendAt (xs := strV X) (news := strV m) hg hd hU rfl rfl rfl rfl hx hy ho hs (strV_one m) hb hl rfl fun v' w1 hN hG hA =>
    k v' w1 (owns_snoc hN) hG (fun _ hE h => Ext.own hE ho h hG) hG.size hA
theorem done_any (l r : List UInt8) (w : World) (hp : ∀ b ∈ l, plainI (b.toNat : Int)) (h1 : 1 ≤ l.length) (h63 : l.length ≤ 63) (hr : r = [] ∨ ∃ t, r = 46 :: t) (hrl : r.length ≤ 1000000) :
    Ret Tryz.prog 20 #[.string ⟨(l ++ r).toArray⟩] w fun v w' => v = .tuple #[.string ⟨l.toArray⟩, .int .i64 (l.length : Nat), .int .i64 0] ∧ Ext w w' := by
  have hE0 := Ext.refl w
  have hal : (l ++ r).length = l.length + r.length := List.length_append
  refine Ret.body Tryz.func20 rfl Tryz.ntmps20 rfl ?_
  refine Cd.seq ?_
  refine Cd.region ?_
  refine Seg.step rfl rfl (Yd.assign rfl) ?_
  refine Seg.step rfl rfl (Yd.assign rfl) ?_
  refine Seg.step rfl rfl (Yd.assign rfl) ?_
  refine Seg.nil ?_
  refine At.then_ ?_
  refine Cd.seq ?_
  refine Cd.region ?_
  refine Seg.step rfl rfl (Yd.assign rfl) ?_
  refine Seg.nil ?_
  refine At.then_ ?_
  refine Cd.seq ?_
  refine Cd.region ?_
  refine Seg.step rfl rfl (Yd.assign rfl) ?_
  refine Seg.nil ?_
  refine At.then_ ?_
  refine Cd.seq ?_
  refine Cd.block ?_
  refine Cd.loop (σ := Nat × Value) (fun t => [(0, .string ⟨(l ++ r).toArray⟩), (5, t.2), (6, .int .i64 (t.1 : Int))])
    (fun t w' => t.1 ≤ l.length ∧ OwnB w' w.heap.size t.2 (l.take t.1) ∧ Ext w w') (fun t => l.length - t.1) (0, .slice none 0 0) (.cons rfl (.cons rfl (.cons rfl (.nil _)))) ⟨Nat.zero_le _, World.ownsRow_nil _ _ _ _, hE0⟩ ?_
  clear hE0
  rintro ⟨i, v⟩ w1 ⟨hi, hO, hE1⟩
  simp only at hi hO ⊢
  have kO : Keep (OwnB w1 w.heap.size v (l.take i)) := hO
  have kE1 : Keep (Ext w w1) := hE1
  have hEn := Ext.refl w1
  clear hO
  by_cases hlt : i < l.length
  · have hg : (l ++ r).getD i 0 = l.getD i 0 := by simp [List.getD, List.getElem?_append_left hlt]
    have hmem : l.getD i 0 ∈ l := List.mem_of_getElem? (getD_at hlt)
    obtain ⟨p1, p2, p3, p4⟩ := plain_in (hp _ hmem)
    have htl : (l.take i).length ≤ 63 := by rw [List.length_take]; omega
    have hsn := take_get hlt
    rw [← hg] at p1 p2 hsn
    refine Cd.seq ?_
    refine Cd.seq ?_
    refine Cd.region ?_
    refine Seg.step rfl rfl (Yd.move rfl) ?_
    refine Seg.step rfl rfl (Yd.move rfl) ?_
    refine Seg.step rfl rfl (Yd.lenStr rfl rfl) ?_
    refine Seg.step rfl rfl (Yd.lss rfl rfl) ?_
    refine Seg.step rfl rfl (Yd.move rfl) ?_
    refine Seg.gsplitp rfl rfl (fun h72 => ?_) (fun h72 => ?_)
    · refine Seg.step rfl rfl (Yd.move rfl) ?_
      refine Seg.step rfl rfl (Yd.move rfl) ?_
      refine Seg.step rfl rfl (Yd.indexStr rfl rfl rfl (NatOf.cast _) (by omega)) ?_
      refine Seg.step rfl rfl (Yd.neq rfl rfl) ?_
      refine Seg.step rfl rfl (Yd.pickT rfl rfl) ?_
      refine Seg.nil ?_
      refine At.then_ ?_
      refine Cd.condk rfl (fun h81 => ?_) (fun h81 => ?_)
      · refine Cd.skip ?_
        refine At.then_ ?_
        refine Cd.block ?_
        refine Cd.seq ?_
        refine Cd.region ?_
        refine Seg.step rfl rfl (Yd.move rfl) ?_
        refine Seg.step rfl rfl (Yd.move rfl) ?_
        refine Seg.step rfl rfl (Yd.indexStr rfl rfl rfl (NatOf.cast _) (by omega)) ?_
        refine Seg.step rfl rfl (Yd.assign rfl) ?_
        refine Seg.nil ?_
        refine At.then_ ?_
        refine Cd.seq ?_
        refine Cd.region ?_
        refine Seg.step rfl rfl (Yd.move rfl) ?_
        refine Seg.step rfl rfl (Yd.addI rfl rfl (by omega)) ?_
        refine Seg.step rfl rfl (Yd.assign rfl) ?_
        refine Seg.nil ?_
        refine At.then_ ?_
        refine Cd.seq ?_
        refine Cd.seq ?_
        refine Cd.region ?_
        refine Seg.step rfl rfl (Yd.move rfl) ?_
        refine Seg.step rfl rfl (Yd.eql rfl rfl) ?_
        refine Seg.nil ?_
        refine At.then_ ?_
        refine Cd.condk rfl (fun h108 => ?_) (fun h108 => ?_)
        · exfalso; omega
        · refine Cd.skip ?_
          refine At.then_ ?_
          refine Cd.region ?_
          refine Seg.step rfl rfl (Yd.move rfl) ?_
          refine Seg.step rfl rfl (Yd.move rfl) ?_
          refine Seg.buildSliceV rfl rfl rfl rfl rfl rfl rfl rfl rfl rfl (fun w115 b115 hE115 hB115 hb115 hO115 => ?_)
          have hlt115_0 := Nat.le_trans hE1.size hb115
          have hlt115_1 := Nat.le_trans hEn.size hb115
          replace hE1 := Ext.trans hE1 hE115
          replace hEn := Ext.trans hEn hE115
          (refine Seg.appB (m := [(l ++ r).getD i 0]) rfl rfl rfl rfl rfl (own_ext kO hEn) (own_sl (by assumption)) (Below.size (Ext.trans kE1 hEn)) (by show _ + 1 ≤ _; omega) (fun v116 w116 hO116 _ hX116 hS116 _ => ?_); have hE3 := hX116 w (Ext.trans kE1 hEn) (Nat.le_refl _))
          refine Seg.step rfl rfl (Yd.assign rfl) ?_
          refine Seg.nil ?_
          refine At.blk ?_
          exact At.round (i + 1, _) (.cons rfl (.cons rfl (.cons rfl (.nil _)))) ⟨hlt, by rw [hsn]; assumption, hE3⟩ (Nat.sub_lt_sub_left hlt (Nat.lt_succ_self i))
      · exfalso; omega
    · exfalso; omega
  · obtain rfl : i = l.length := by omega
    rw [List.take_length] at kO
    obtain ⟨va, vc, rfl⟩ := own_shape kO
    rcases Nat.eq_zero_or_pos r.length with hr0 | hr1
    · refine Cd.seq ?_
      refine Cd.seq ?_
      refine Cd.region ?_
      refine Seg.step rfl rfl (Yd.move rfl) ?_
      refine Seg.step rfl rfl (Yd.move rfl) ?_
      refine Seg.step rfl rfl (Yd.lenStr rfl rfl) ?_
      refine Seg.step rfl rfl (Yd.lss rfl rfl) ?_
      refine Seg.step rfl rfl (Yd.move rfl) ?_
      refine Seg.gsplitp rfl rfl (fun h72 => ?_) (fun h72 => ?_)
      · exfalso; omega
      · refine Seg.skip rfl rfl ?_
        refine Seg.skip rfl rfl ?_
        refine Seg.skip rfl rfl ?_
        refine Seg.skip rfl rfl ?_
        refine Seg.step rfl rfl (Yd.pickF rfl rfl) ?_
        refine Seg.nil ?_
        refine At.then_ ?_
        refine Cd.condF rfl ?_
        refine Cd.exit ?_
        refine At.then_exit ?_
        refine At.then_exit ?_
        refine At.blk_same ?_
        refine At.then_ ?_
        refine Cd.seq ?_
        refine Cd.seq ?_
        refine Cd.region ?_
        refine Seg.step rfl rfl (Yd.move rfl) ?_
        refine Seg.step rfl rfl (Yd.lenS rfl rfl) ?_
        refine Seg.step rfl rfl (Yd.eql rfl rfl) ?_
        refine Seg.nil ?_
        refine At.then_ ?_
        refine Cd.condk rfl (fun h95 => ?_) (fun h95 => ?_)
        · exfalso; omega
        · refine Cd.skip ?_
          refine At.then_ ?_
          refine Cd.seq ?_
          refine Cd.seq ?_
          refine Cd.region ?_
          refine Seg.step rfl rfl (Yd.move rfl) ?_
          refine Seg.step rfl rfl (Yd.lenS rfl rfl) ?_
          refine Seg.step rfl rfl (Yd.gtr rfl rfl) ?_
          refine Seg.nil ?_
          refine At.then_ ?_
          refine Cd.condk rfl (fun h107 => ?_) (fun h107 => ?_)
          · exfalso; omega
          · refine Cd.skip ?_
            refine At.then_ ?_
            refine Cd.seq ?_
            refine Cd.region ?_
            refine Seg.step rfl rfl (Yd.move rfl) ?_
            (refine Seg.step rfl rfl (Yd.bts (l := l) rfl rfl rfl rfl (own_sl (own_ext kO hEn))) ?_)
            refine Seg.step rfl rfl (Yd.move rfl) ?_
            refine Seg.step rfl rfl (Yd.assign rfl) ?_
            refine Seg.step rfl rfl (Yd.assign rfl) ?_
            refine Seg.step rfl rfl (Yd.assign rfl) ?_
            refine Seg.nil ?_
            refine At.then_ ?_
            refine Cd.ret ?_
            exact At.ret Tryz.results20 (.tmp rfl (.tmp rfl (.tmp rfl .nil))) ⟨rfl, Ext.trans kE1 hEn⟩
    · have hg : ((l ++ r).getD l.length 0).toNat = 46 := by
        rcases hr with rfl | ⟨t, rfl⟩
        · simp at hr1
        · simp [List.getD]
      refine Cd.seq ?_
      refine Cd.seq ?_
      refine Cd.region ?_
      refine Seg.step rfl rfl (Yd.move rfl) ?_
      refine Seg.step rfl rfl (Yd.move rfl) ?_
      refine Seg.step rfl rfl (Yd.lenStr rfl rfl) ?_
      refine Seg.step rfl rfl (Yd.lss rfl rfl) ?_
      refine Seg.step rfl rfl (Yd.move rfl) ?_
      refine Seg.gsplitp rfl rfl (fun h72 => ?_) (fun h72 => ?_)
      · refine Seg.step rfl rfl (Yd.move rfl) ?_
        refine Seg.step rfl rfl (Yd.move rfl) ?_
        refine Seg.step rfl rfl (Yd.indexStr rfl rfl rfl (NatOf.cast _) (by omega)) ?_
        refine Seg.step rfl rfl (Yd.neq rfl rfl) ?_
        refine Seg.step rfl rfl (Yd.pickT rfl rfl) ?_
        refine Seg.nil ?_
        refine At.then_ ?_
        refine Cd.condk rfl (fun h81 => ?_) (fun h81 => ?_)
        · exfalso; omega
        · refine Cd.exit ?_
          refine At.then_exit ?_
          refine At.then_exit ?_
          refine At.blk_same ?_
          refine At.then_ ?_
          refine Cd.seq ?_
          refine Cd.seq ?_
          refine Cd.region ?_
          refine Seg.step rfl rfl (Yd.move rfl) ?_
          refine Seg.step rfl rfl (Yd.lenS rfl rfl) ?_
          refine Seg.step rfl rfl (Yd.eql rfl rfl) ?_
          refine Seg.nil ?_
          refine At.then_ ?_
          refine Cd.condk rfl (fun h96 => ?_) (fun h96 => ?_)
          · exfalso; omega
          · refine Cd.skip ?_
            refine At.then_ ?_
            refine Cd.seq ?_
            refine Cd.seq ?_
            refine Cd.region ?_
            refine Seg.step rfl rfl (Yd.move rfl) ?_
            refine Seg.step rfl rfl (Yd.lenS rfl rfl) ?_
            refine Seg.step rfl rfl (Yd.gtr rfl rfl) ?_
            refine Seg.nil ?_
            refine At.then_ ?_
            refine Cd.condk rfl (fun h108 => ?_) (fun h108 => ?_)
            · exfalso; omega
            · refine Cd.skip ?_
              refine At.then_ ?_
              refine Cd.seq ?_
              refine Cd.region ?_
              refine Seg.step rfl rfl (Yd.move rfl) ?_
              (refine Seg.step rfl rfl (Yd.bts (l := l) rfl rfl rfl rfl (own_sl (own_ext kO hEn))) ?_)
              refine Seg.step rfl rfl (Yd.move rfl) ?_
              refine Seg.step rfl rfl (Yd.assign rfl) ?_
              refine Seg.step rfl rfl (Yd.assign rfl) ?_
              refine Seg.step rfl rfl (Yd.assign rfl) ?_
              refine Seg.nil ?_
              refine At.then_ ?_
              refine Cd.ret ?_
              exact At.ret Tryz.results20 (.tmp rfl (.tmp rfl (.tmp rfl .nil))) ⟨rfl, Ext.trans kE1 hEn⟩
      · exfalso; omega
/-- A name, written with a last dot or without. -/
def txtN : List (List UInt8) → Bool → List UInt8
  | [], _ => []
  | [l], d => l ++ (if d then [46] else [])
  | l :: m :: r, d => l ++ 46 :: txtN (m :: r) d
theorem txt_split (l : List UInt8) (m : List (List UInt8)) (d : Bool) : ∃ r, txtN (l :: m) d = l ++ r ∧ ((r = [] ∧ m = [] ∧ d = false) ∨ (r = 46 :: txtN m d ∧ (m = [] → d = true))) := by
  cases m with
  | nil =>
    cases d
    · exact ⟨[], rfl, .inl ⟨rfl, rfl, rfl⟩⟩
    · exact ⟨[46], rfl, .inr ⟨rfl, fun _ => rfl⟩⟩
  | cons m r => exact ⟨_, rfl, .inr ⟨rfl, fun h => by cases h⟩⟩
theorem txt_true : ∀ n : List (List UInt8), txtN n true = dotN n
  | [] => rfl
  | [l] => by simp [txtN, dotN]
  | l :: m :: r => by
    rw [txtN, txt_true (m :: r)]
    simp [dotN]
theorem txt_false : ∀ n : List (List UInt8), n ≠ [] → txtN n false = (dotN n).dropLast
  | [], h => absurd rfl h
  | [l], _ => by simp [txtN, dotN]
  | l :: m :: r, _ => by
    rw [txtN, txt_false (m :: r) (by simp)]
    have e : dotN (l :: m :: r) = (l ++ [46]) ++ dotN (m :: r) := by simp [dotN]
    have hne : dotN (m :: r) ≠ [] := fun h => by have := dotN_pos (n := m :: r) (by simp); rw [h] at this; simp at this
    rw [e, List.dropLast_append_of_ne_nil hne]
    simp
theorem txt_len (n : List (List UInt8)) (d : Bool) : (txtN n d).length ≤ szN n := by
  have h := dotN_len n
  cases d
  · cases n with
    | nil => simp [txtN]
    | cons l m => rw [txt_false _ (by simp), List.length_dropLast]; omega
  · rw [txt_true]; omega
theorem txt_drop (n : List (List UInt8)) (i : Nat) (d : Bool) : (txtN (n.drop i) d).length ≤ szN n := by
  have h1 := txt_len (n.drop i) d
  have h2 : szN (n.drop i) ≤ szN n := by
    conv => rhs; rw [← List.take_append_drop i n]
    unfold szN
    rw [List.map_append, List.sum_append]
    omega
  omega
structure PsS where
  i : Nat
  v : Value
  f : Bool
theorem dparse_any (n : List (List UInt8)) (d : Bool) (w : World) (hp : plainN n) (hn : n ≠ []) (hlab : labN n) (hz : szN n ≤ 255) :
    Ret Tryz.prog 6 #[.string ⟨(txtN n d).toArray⟩] w fun v w' => (∃ u, v = .tuple #[u, .bool d, .int .i64 0] ∧ NameAt w' u n ∧ Above w.heap.size u) ∧ Ext w w' := by
  have hE0 := Ext.refl w
  have hnl := szN_len n
  have hnp : 0 < n.length := List.length_pos_iff.2 hn
  have hne : ∀ i, i < n.length → ∃ b t, txtN (n.drop i) d = b :: t ∧ ¬ b.toNat = 46 := fun i hi => by
    obtain ⟨l, hl⟩ : ∃ l, n[i]? = some l := ⟨_, List.getElem?_eq_getElem hi⟩
    have hmem := List.mem_of_getElem? hl
    obtain ⟨r, h1, _⟩ := txt_split l (n.drop (i + 1)) d
    have e : n.drop i = l :: n.drop (i + 1) := by
      rw [List.drop_eq_getElem_cons hi]
      congr 1
      exact (List.getElem?_eq_some_iff.1 hl).2
    rw [e, h1]
    have h2 := hlab l hmem
    have h3 := hp l hmem
    match l, h2, h3 with
    | [], h2, _ => simp at h2
    | b :: t, _, h3 => exact ⟨b, t ++ r, rfl, by have := plain_in (h3 b (by simp)); omega⟩
  have hne1 : ∀ i, i < n.length → ¬ txtN (n.drop i) d = [] := fun i hi h => by
    obtain ⟨b, t, h1, _⟩ := hne i hi
    rw [h] at h1; cases h1
  have hne2 : ¬ txtN n d = [46] := fun h => by
    obtain ⟨b, t, h1, h2⟩ := hne 0 hnp
    rw [List.drop_zero, h] at h1
    cases h1
    exact h2 rfl
  have hne3 : ¬ txtN n d = [] := fun h => hne1 0 hnp (by rw [List.drop_zero]; exact h)
  refine Ret.body Tryz.func6 rfl Tryz.ntmps6 rfl ?_
  refine Cd.seq ?_
  refine Cd.region ?_
  refine Seg.step rfl rfl (Yd.assign rfl) ?_
  refine Seg.step rfl rfl (Yd.assign rfl) ?_
  refine Seg.step rfl rfl (Yd.assign rfl) ?_
  refine Seg.nil ?_
  refine At.then_ ?_
  refine Cd.seq ?_
  refine Cd.seq ?_
  refine Cd.region ?_
  refine Seg.step rfl rfl (Yd.move rfl) ?_
  refine Seg.step rfl rfl (Yd.eqlS rfl rfl) ?_
  refine Seg.nil ?_
  refine At.then_ ?_
  refine Cd.condk rfl (fun h18 => ?_) (fun h18 => ?_)
  · contradiction
  refine Cd.skip ?_
  refine At.then_ ?_
  refine Cd.seq ?_
  refine Cd.seq ?_
  refine Cd.region ?_
  refine Seg.step rfl rfl (Yd.move rfl) ?_
  refine Seg.step rfl rfl (Yd.eqlS rfl rfl) ?_
  refine Seg.nil ?_
  refine At.then_ ?_
  refine Cd.condk rfl (fun h29 => ?_) (fun h29 => ?_)
  · contradiction
  refine Cd.skip ?_
  refine At.then_ ?_
  refine Cd.seq ?_
  refine Cd.region ?_
  refine Seg.step rfl rfl (Yd.assign rfl) ?_
  refine Seg.nil ?_
  refine At.then_ ?_
  refine Cd.seq ?_
  refine Cd.region ?_
  refine Seg.step rfl rfl (Yd.assign rfl) ?_
  refine Seg.nil ?_
  refine At.then_ ?_
  refine Cd.seq ?_
  refine Cd.block ?_
  refine Cd.loop (σ := PsS) (fun t => [(0, .string ⟨(txtN (n.drop t.i) d).toArray⟩), (5, t.v), (6, .bool t.f)])
    (fun t w' => t.i ≤ n.length ∧ OwnS w' w.heap.size t.v (n.take t.i) ∧ Ext w w' ∧ (0 < t.i → t.i = n.length → t.f = d)) (fun t => n.length - t.i) ⟨0, .slice none 0 0, false⟩ (.cons rfl (.cons rfl (.cons rfl (.nil _)))) ⟨Nat.zero_le _, World.ownsRow_nil _ _ _ _, hE0, fun h => absurd h (Nat.lt_irrefl _)⟩ ?_
  clear hE0
  rintro ⟨i, v, f⟩ w1 ⟨hi, hO, hE1, hf⟩
  simp only at hi hO hf ⊢
  have kO : Keep (OwnS w1 w.heap.size v (n.take i)) := hO
  have kE1 : Keep (Ext w w1) := hE1
  have hEn := Ext.refl w1
  clear hO
  by_cases hlt : i < n.length
  · have hnei := hne1 i hlt
    obtain ⟨l, hl⟩ : ∃ l, n[i]? = some l := ⟨_, List.getElem?_eq_getElem hlt⟩
    have hmem := List.mem_of_getElem? hl
    have hl63 := hlab l hmem
    have hst : n.take (i + 1) = n.take i ++ [l] := by rw [List.take_add_one, hl]; rfl
    obtain ⟨r, h1, h2⟩ := txt_split l (n.drop (i + 1)) d
    have e : n.drop i = l :: n.drop (i + 1) := by
      rw [List.drop_eq_getElem_cons hlt]
      congr 1
      exact (List.getElem?_eq_some_iff.1 hl).2
    have hdl := txt_drop n i d
    rw [e, h1] at hdl hnei ⊢
    rw [List.length_append] at hdl
    have hal : (l ++ r).length = l.length + r.length := List.length_append
    have hcall := fun (w' : World) => done_any l r w' (hp l hmem) hl63.1 hl63.2 (h2.elim (fun h => .inl h.1) (fun h => .inr ⟨_, h.1⟩)) (by omega)
    have hxl : (n.take i).length ≤ 255 := by rw [List.length_take]; omega
    rcases h2 with ⟨hr, hm, hd⟩ | ⟨hr, hd⟩
    · have hr0 : r.length = 0 := by rw [hr]; rfl
      have hdr : (l ++ r).drop l.length = txtN (n.drop (i + 1)) d := by rw [List.drop_left, hr, hm]; rfl
      have hfl : 0 < i + 1 → i + 1 = n.length → decide ((l.length : Int) < ((l ++ r).length : Int)) = d := fun _ _ => by rw [hd, decide_eq_false]; omega
      refine Cd.seq ?_
      refine Cd.seq ?_
      refine Cd.region ?_
      refine Seg.step rfl rfl (Yd.move rfl) ?_
      refine Seg.step rfl rfl (Yd.neqS rfl rfl) ?_
      refine Seg.nil ?_
      refine At.then_ ?_
      refine Cd.condk rfl (fun h71 => ?_) (fun h71 => ?_)
      · refine Cd.skip ?_
        refine At.then_ ?_
        refine Cd.block ?_
        refine Cd.seq ?_
        refine Cd.region ?_
        refine Seg.step rfl rfl (Yd.move rfl) ?_
        (refine Seg.call rfl rfl (own_of rfl) rfl (hcall _) ?_; rintro _ w79 ⟨rfl, hE79⟩)
        replace hE1 := Ext.trans hE1 hE79
        replace hEn := Ext.trans hEn hE79
        refine Seg.step rfl rfl (Yd.move rfl) ?_
        refine Seg.step rfl rfl (Yd.extract rfl rfl) ?_
        refine Seg.step rfl rfl (Yd.extract rfl rfl) ?_
        refine Seg.step rfl rfl (Yd.extract rfl rfl) ?_
        refine Seg.step rfl rfl (Yd.assign rfl) ?_
        refine Seg.step rfl rfl (Yd.assign rfl) ?_
        refine Seg.step rfl rfl (Yd.assign rfl) ?_
        refine Seg.nil ?_
        refine At.then_ ?_
        refine Cd.seq ?_
        refine Cd.seq ?_
        refine Cd.region ?_
        refine Seg.step rfl rfl (Yd.move rfl) ?_
        refine Seg.step rfl rfl (Yd.neq rfl rfl) ?_
        refine Seg.nil ?_
        refine At.then_ ?_
        refine Cd.condF rfl ?_
        refine Cd.skip ?_
        refine At.then_ ?_
        refine Cd.seq ?_
        refine Cd.region ?_
        refine Seg.step rfl rfl (Yd.move rfl) ?_
        refine Seg.step rfl rfl (Yd.move rfl) ?_
        refine Seg.buildSliceV rfl rfl rfl rfl rfl rfl rfl rfl rfl rfl (fun w103 b103 hE103 hB103 hb103 hO103 => ?_)
        have hlt103_0 := Nat.le_trans hE79.size hb103
        have hlt103_1 := Nat.le_trans hE1.size hb103
        have hlt103_2 := Nat.le_trans hEn.size hb103
        replace hE79 := Ext.trans hE79 hE103
        replace hE1 := Ext.trans hE1 hE103
        replace hEn := Ext.trans hEn hE103
        (refine Seg.appS (m := [l]) rfl rfl rfl rfl rfl (own_ext kO hEn) (own_sl (by assumption)) (Below.size (Ext.trans kE1 hEn)) (by show _ + 1 ≤ _; omega) (fun v104 w104 hO104 _ hX104 hS104 _ => ?_); have hE3 := hX104 w (Ext.trans kE1 hEn) (Nat.le_refl _))
        refine Seg.step rfl rfl (Yd.assign rfl) ?_
        refine Seg.nil ?_
        refine At.then_ ?_
        refine Cd.seq ?_
        refine Cd.region ?_
        refine Seg.step rfl rfl (Yd.move rfl) ?_
        refine Seg.step rfl rfl (Yd.move rfl) ?_
        refine Seg.step rfl rfl (Yd.lenStr rfl rfl) ?_
        refine Seg.step rfl rfl (Yd.lss rfl rfl) ?_
        refine Seg.step rfl rfl (Yd.assign rfl) ?_
        refine Seg.nil ?_
        refine At.then_ ?_
        refine Cd.seq ?_
        refine Cd.seq ?_
        refine Cd.region ?_
        refine Seg.step rfl rfl (Yd.move rfl) ?_
        refine Seg.nil ?_
        refine At.then_ ?_
        refine Cd.condk rfl (fun h123 => ?_) (fun h123 => ?_)
        · exfalso; omega
        · refine Cd.skip ?_
          refine At.then_ ?_
          refine Cd.region ?_
          refine Seg.step rfl rfl (Yd.move rfl) ?_
          refine Seg.step rfl rfl (Yd.move rfl) ?_
          refine Seg.step rfl rfl (Yd.slStrL rfl rfl rfl (NatOf.cast _) (by omega)) ?_
          refine Seg.step rfl rfl (Yd.assign rfl) ?_
          refine Seg.nil ?_
          refine At.blk ?_
          exact At.round ⟨i + 1, _, _⟩ (by rw [← hdr]; exact (.cons rfl (.cons rfl (.cons rfl (.nil _))))) ⟨hlt, by rw [hst]; assumption, hE3, hfl⟩ (Nat.sub_lt_sub_left hlt (Nat.lt_succ_self i))
      · contradiction
    · have hr1 : 1 ≤ r.length := by rw [hr]; simp
      have hdr : (l ++ r).drop (l.length + 1) = txtN (n.drop (i + 1)) d := by rw [hr, ← List.drop_drop, List.drop_left]; rfl
      have hfl : 0 < i + 1 → i + 1 = n.length → decide ((l.length : Int) < ((l ++ r).length : Int)) = d := fun _ h => by
        rw [hd (by rw [h, List.drop_length]), decide_eq_true]; omega
      refine Cd.seq ?_
      refine Cd.seq ?_
      refine Cd.region ?_
      refine Seg.step rfl rfl (Yd.move rfl) ?_
      refine Seg.step rfl rfl (Yd.neqS rfl rfl) ?_
      refine Seg.nil ?_
      refine At.then_ ?_
      refine Cd.condk rfl (fun h71 => ?_) (fun h71 => ?_)
      · refine Cd.skip ?_
        refine At.then_ ?_
        refine Cd.block ?_
        refine Cd.seq ?_
        refine Cd.region ?_
        refine Seg.step rfl rfl (Yd.move rfl) ?_
        (refine Seg.call rfl rfl (own_of rfl) rfl (hcall _) ?_; rintro _ w79 ⟨rfl, hE79⟩)
        replace hE1 := Ext.trans hE1 hE79
        replace hEn := Ext.trans hEn hE79
        refine Seg.step rfl rfl (Yd.move rfl) ?_
        refine Seg.step rfl rfl (Yd.extract rfl rfl) ?_
        refine Seg.step rfl rfl (Yd.extract rfl rfl) ?_
        refine Seg.step rfl rfl (Yd.extract rfl rfl) ?_
        refine Seg.step rfl rfl (Yd.assign rfl) ?_
        refine Seg.step rfl rfl (Yd.assign rfl) ?_
        refine Seg.step rfl rfl (Yd.assign rfl) ?_
        refine Seg.nil ?_
        refine At.then_ ?_
        refine Cd.seq ?_
        refine Cd.seq ?_
        refine Cd.region ?_
        refine Seg.step rfl rfl (Yd.move rfl) ?_
        refine Seg.step rfl rfl (Yd.neq rfl rfl) ?_
        refine Seg.nil ?_
        refine At.then_ ?_
        refine Cd.condF rfl ?_
        refine Cd.skip ?_
        refine At.then_ ?_
        refine Cd.seq ?_
        refine Cd.region ?_
        refine Seg.step rfl rfl (Yd.move rfl) ?_
        refine Seg.step rfl rfl (Yd.move rfl) ?_
        refine Seg.buildSliceV rfl rfl rfl rfl rfl rfl rfl rfl rfl rfl (fun w103 b103 hE103 hB103 hb103 hO103 => ?_)
        have hlt103_0 := Nat.le_trans hE79.size hb103
        have hlt103_1 := Nat.le_trans hE1.size hb103
        have hlt103_2 := Nat.le_trans hEn.size hb103
        replace hE79 := Ext.trans hE79 hE103
        replace hE1 := Ext.trans hE1 hE103
        replace hEn := Ext.trans hEn hE103
        (refine Seg.appS (m := [l]) rfl rfl rfl rfl rfl (own_ext kO hEn) (own_sl (by assumption)) (Below.size (Ext.trans kE1 hEn)) (by show _ + 1 ≤ _; omega) (fun v104 w104 hO104 _ hX104 hS104 _ => ?_); have hE3 := hX104 w (Ext.trans kE1 hEn) (Nat.le_refl _))
        refine Seg.step rfl rfl (Yd.assign rfl) ?_
        refine Seg.nil ?_
        refine At.then_ ?_
        refine Cd.seq ?_
        refine Cd.region ?_
        refine Seg.step rfl rfl (Yd.move rfl) ?_
        refine Seg.step rfl rfl (Yd.move rfl) ?_
        refine Seg.step rfl rfl (Yd.lenStr rfl rfl) ?_
        refine Seg.step rfl rfl (Yd.lss rfl rfl) ?_
        refine Seg.step rfl rfl (Yd.assign rfl) ?_
        refine Seg.nil ?_
        refine At.then_ ?_
        refine Cd.seq ?_
        refine Cd.seq ?_
        refine Cd.region ?_
        refine Seg.step rfl rfl (Yd.move rfl) ?_
        refine Seg.nil ?_
        refine At.then_ ?_
        refine Cd.condk rfl (fun h123 => ?_) (fun h123 => ?_)
        · refine Cd.region ?_
          refine Seg.step rfl rfl (Yd.move rfl) ?_
          refine Seg.step rfl rfl (Yd.addI rfl rfl (by omega)) ?_
          refine Seg.step rfl rfl (Yd.assign rfl) ?_
          refine Seg.nil ?_
          refine At.then_ ?_
          refine Cd.region ?_
          refine Seg.step rfl rfl (Yd.move rfl) ?_
          refine Seg.step rfl rfl (Yd.move rfl) ?_
          refine Seg.step rfl rfl (Yd.slStrL rfl rfl rfl (NatOf.add (NatOf.cast _) (NatOf.cast 1)) (by omega)) ?_
          refine Seg.step rfl rfl (Yd.assign rfl) ?_
          refine Seg.nil ?_
          refine At.blk ?_
          exact At.round ⟨i + 1, _, _⟩ (by rw [← hdr]; exact (.cons rfl (.cons rfl (.cons rfl (.nil _))))) ⟨hlt, by rw [hst]; assumption, hE3, hfl⟩ (Nat.sub_lt_sub_left hlt (Nat.lt_succ_self i))
        · exfalso; omega
      · contradiction
  · obtain rfl : i = n.length := by omega
    rw [List.take_length] at kO
    rw [hf hnp rfl, List.drop_length]
    refine Cd.seq ?_
    refine Cd.seq ?_
    refine Cd.region ?_
    refine Seg.step rfl rfl (Yd.move rfl) ?_
    refine Seg.step rfl rfl (Yd.neqS rfl rfl) ?_
    refine Seg.nil ?_
    refine At.then_ ?_
    refine Cd.condF rfl ?_
    refine Cd.exit ?_
    refine At.then_exit ?_
    refine At.then_exit ?_
    refine At.blk_same ?_
    refine At.then_ ?_
    refine Cd.seq ?_
    refine Cd.seq ?_
    refine Cd.region ?_
    refine Seg.step rfl rfl (Yd.move rfl) ?_
    (refine Seg.call rfl rfl (own_of rfl) rfl (dsize_any n _ _ (own_sl (own_ext kO hEn)) (by omega)) ?_; rintro _ w47 ⟨rfl, hE47⟩)
    replace hE1 := Ext.trans hE1 hE47
    replace hEn := Ext.trans hEn hE47
    refine Seg.step rfl rfl (Yd.gtr rfl rfl) ?_
    refine Seg.nil ?_
    refine At.then_ ?_
    refine Cd.condk rfl (fun h51 => ?_) (fun h51 => ?_)
    · exfalso; omega
    · refine Cd.skip ?_
      refine At.then_ ?_
      refine Cd.seq ?_
      refine Cd.region ?_
      refine Seg.step rfl rfl (Yd.move rfl) ?_
      refine Seg.step rfl rfl (Yd.move rfl) ?_
      refine Seg.step rfl rfl (Yd.assign rfl) ?_
      refine Seg.step rfl rfl (Yd.assign rfl) ?_
      refine Seg.step rfl rfl (Yd.assign rfl) ?_
      refine Seg.nil ?_
      refine At.then_ ?_
      refine Cd.ret ?_
      exact At.ret Tryz.results6 (.tmp rfl (.tmp rfl (.tmp rfl .nil))) ⟨⟨_, rfl, own_sl (own_ext kO hEn), own_above kO⟩, Ext.trans kE1 hEn⟩
end Go.Proofs.YtahpiaaffeiadaaGreatDoor
