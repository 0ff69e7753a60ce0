/- Names as octets: packed.octets, New, Put. -/
import Derived.Test.YtahpiaaffeiadaaGreatEmp
namespace Go.Proofs.YtahpiaaffeiadaaGreat
open Go Go.RowKit
/-- A name's labels' octets. -/
def octN (n : List (List UInt8)) : List UInt8 := n.flatMap fun l => UInt8.ofNat l.length :: l
theorem octN_snoc (n : List (List UInt8)) (l : List UInt8) : octN (n ++ [l]) = octN n ++ [UInt8.ofNat l.length] ++ l := by simp [octN]
theorem octN_len (n : List (List UInt8)) : (octN n).length + 1 = szN n := by
  unfold octN szN
  induction n with
  | nil => rfl
  | cons l n ih => simp at ih ⊢; omega
/-- Where each of them begins. -/
def begF : Nat → List (List UInt8) → List Nat
  | _, [] => []
  | k, l :: r => k :: begF (k + (l.length + 1)) r
theorem begF_snoc : ∀ (n : List (List UInt8)) (k : Nat) (l : List UInt8), begF k (n ++ [l]) = begF k n ++ [k + (octN n).length]
  | [], k, l => by simp [begF, octN]
  | a :: n, k, l => by
    show k :: begF (k + (a.length + 1)) (n ++ [l]) = _
    rw [begF_snoc n]
    have : (octN (a :: n)).length = a.length + 1 + (octN n).length := by simp [octN]; omega
    rw [this]
    simp [begF]; omega
theorem begF_len : ∀ (n : List (List UInt8)) (k : Nat), (begF k n).length = n.length
  | [], _ => rfl
  | a :: n, k => by simp [begF, begF_len n]
theorem begF_at : ∀ (n : List (List UInt8)) (k i : Nat), i < n.length → (begF k n)[i]? = some (k + (octN (n.take i)).length)
  | [], _, i, h => by simp at h
  | a :: n, k, 0, _ => by simp [begF, octN]
  | a :: n, k, i + 1, h => by
    show (begF (k + (a.length + 1)) n)[i]? = _
    rw [begF_at n _ i (by simpa using h)]
    have : (octN ((a :: n).take (i + 1))).length = a.length + 1 + (octN (n.take i)).length := by simp [octN]; omega
    rw [this]; congr 1; omega
structure OcS where
  i : Nat
  vB : Value
  vG : Value
theorem poctets_any (n : List (List UInt8)) (v0 : Value) (w : World) (h0 : NameAt w v0 n) (hz : szN n ≤ 1000) : Ret Tryz.prog 87 #[v0] w fun v w' => (∃ u, v = .tuple #[.string ⟨(octN n).toArray⟩, u] ∧ OwnI w' w.heap.size u (begF 0 n)) ∧ Ext w w' := by
  have hE0 := Ext.refl w
  obtain ⟨ao, c, rfl, hl0, hr0, hz0⟩ := h0
  have hnl := szN_len n
  refine Ret.body Tryz.func87 rfl Tryz.ntmps87 rfl (Cd.seq (Cd.region (Seg.step rfl rfl (Yd.assign rfl) (Seg.step rfl rfl (Yd.assign rfl) (Seg.nil (At.then_ (Cd.seq ?_)))))))
  refine Cd.region (Seg.step rfl rfl (Yd.assign rfl) (Seg.nil (At.then_ (Cd.seq (Cd.region (Seg.step rfl rfl (Yd.move rfl) (Seg.step rfl rfl (Yd.lenS rfl rfl) ?_)))))))
  (refine Seg.makeOwn rfl rfl rfl rfl rfl rfl rfl rfl ⟨by omega, by decide⟩ (fun w16 b16 hO16 hE16 hB16 => ?_); subst hB16; have hE1 := hE16; have hO1 : OwnI w16 w.heap.size _ [] := hO16)
  refine Seg.step rfl rfl (Yd.assign rfl) (Seg.nil (At.then_ (Cd.seq (Cd.seq (Cd.region (Seg.step rfl rfl (Yd.move rfl) (Seg.step rfl rfl (Yd.lenS rfl rfl) ?_)))))))
  refine Seg.step rfl rfl (Yd.move rfl) (Seg.nil (At.then_ (Cd.block ?_)))
  refine Cd.loop (σ := OcS) (fun t => [(4, t.vB), (5, t.vG), (11, .slice ao n.length c), (12, .int .i64 (n.length : Int)), (13, .int .i64 (t.i : Int))])
    (fun t w' => t.i ≤ n.length ∧ OwnB w' w.heap.size t.vB (octN (n.take t.i)) ∧ OwnI w' w.heap.size t.vG (begF 0 (n.take t.i)) ∧ Ext w w') (fun t => n.length - t.i) ⟨0, .slice none 0 0, _⟩ (.cons rfl (.cons rfl (.cons rfl (.cons rfl (.cons rfl (.nil _)))))) ⟨Nat.zero_le _, World.ownsRow_nil _ _ _ _, hO1, hE1⟩ ?_
  clear hE0 hE1 hO1
  rintro ⟨i, vB, vG⟩ w1 ⟨hi, hB, hG, hE1⟩
  simp only at hi hB hG ⊢
  have kB : Keep (OwnB w1 w.heap.size vB (octN (n.take i))) := hB
  have kG : Keep (OwnI w1 w.heap.size vG (begF 0 (n.take i))) := hG
  have kE1 : Keep (Ext w w1) := hE1
  have hEn := Ext.refl w1
  clear hB hG
  have hol := octN_len (n.take i)
  have hbl := begF_len (n.take i) 0
  by_cases hlt : i < n.length
  · obtain ⟨a, rfl⟩ : ∃ a, ao = some a := by
      cases ao with
      | none => have := hz0 rfl; omega
      | some a => exact ⟨a, rfl⟩
    have hr0 := hr0 a rfl
    obtain ⟨l, hl⟩ : ∃ l, n[i]? = some l := ⟨_, List.getElem?_eq_getElem hlt⟩
    have hst : n.take (i + 1) = n.take i ++ [l] := by rw [List.take_add_one, hl]; rfl
    have hsz := szN_take hl
    have hle := szN_le n (i + 1)
    have hti : (n.take i).length = i := by rw [List.length_take]; omega
    have hdn : octN (n.take (i + 1)) = octN (n.take i) ++ [UInt8.ofNat l.length] ++ l := by rw [hst, octN_snoc]
    have hgn : begF 0 (n.take (i + 1)) = begF 0 (n.take i) ++ [(octN (n.take i)).length] := by rw [hst, begF_snoc, Nat.zero_add]
    obtain ⟨ab, cb, hvB, _, _, _⟩ := own_sl kB
    subst hvB
    refine Cd.seq (Cd.region (Seg.step rfl rfl (Yd.lss rfl rfl) (Seg.nil (At.then_ (Cd.seq ?_)))))
    refine Cd.condk rfl (fun h23 => ?_) (fun h23 => ?_)
    · refine Cd.skip (At.then_ (Cd.seq (Cd.block (Cd.seq (Cd.region (Seg.step rfl rfl (Yd.indexAddr1 rfl rfl rfl (NatOf.cast _) (by omega)) (Seg.step rfl rfl (Yd.load1 rfl rfl ((hr0.ext hE1) _ _ (strV_at hl))) ?_)))))))
      refine Seg.step rfl rfl (Yd.assign rfl) (Seg.nil (At.then_ (Cd.seq (Cd.region (Seg.step rfl rfl (Yd.move rfl) (Seg.step rfl rfl (Yd.move rfl) (Seg.step rfl rfl (Yd.lenS rfl rfl) ?_)))))))
      refine Seg.buildSliceV rfl rfl rfl rfl rfl rfl rfl rfl rfl rfl (fun w41 b41 hE41 hB41 hb41 hO41 => ?_)
      have hlt41_0 := Nat.le_trans hE1.size hb41
      have hlt41_1 := Nat.le_trans hEn.size hb41
      replace hE1 := Ext.trans hE1 hE41
      replace hEn := Ext.trans hEn hE41
      first | (refine Seg.appI (m := [(octN (n.take i)).length]) rfl rfl rfl rfl rfl (own_ext kG hEn) (own_sl (by assumption)) (Below.size (Ext.trans kE1 hEn)) (by rw [hbl]; show _ + 1 ≤ _; omega) (fun v42 w42 hO42 hg42 hX42 hS42 => ?_); rw [← hgn] at hO42; have kG2 : Keep (OwnI w42 w.heap.size v42 (begF 0 (n.take (i + 1)))) := hO42; have kB2 : Keep (OwnB w42 w.heap.size (.slice ab (octN (n.take i)).length cb) (octN (n.take i))) := own_keep (own_ext kG hEn) (own_ext kB hEn) (by decide) hg42; have kE2 : Keep (Ext w w42) := hX42 w (Ext.trans kE1 hEn) (Nat.le_refl _); have hEm := Ext.refl w42; clear hO42 hEn kG kB hX42 hg42) | (refine Seg.appB (m := [UInt8.ofNat l.length]) rfl rfl rfl rfl rfl (own_ext kB2 hEm) (own_sl (by assumption)) (Below.size (Ext.trans kE2 hEm)) (by show _ + 1 ≤ _; omega) (fun v42 w42 hO42 hg42 hX42 hS42 _ => ?_); have kB3 : Keep (OwnB w42 w.heap.size v42 (octN (n.take i) ++ [UInt8.ofNat l.length])) := hO42; have kG3 : Keep (OwnI w42 w.heap.size _ (begF 0 (n.take (i + 1)))) := own_keep (own_ext kB2 hEm) (own_ext kG2 hEm) (by decide) hg42; have kE3 : Keep (Ext w w42) := hX42 w (Ext.trans kE2 hEm) (Nat.le_refl _); have hEl := Ext.refl w42; clear hO42 hEm kG2 kB2 hX42 hg42) | (refine Seg.appStr (m := l) rfl rfl rfl rfl rfl (own_ext kB3 hEl) (Below.size (Ext.trans kE3 hEl)) (by rw [List.length_append]; show _ + 1 + _ ≤ _; omega) (fun v42 w42 hO42 hg42 hX42 hS42 => ?_); rw [← hdn] at hO42; have kB4 : Keep (OwnB w42 w.heap.size v42 (octN (n.take (i + 1)))) := hO42; have kG4 : Keep (OwnI w42 w.heap.size _ (begF 0 (n.take (i + 1)))) := own_keep (own_ext kB3 hEl) (own_ext kG3 hEl) (by decide) hg42; have kE4 : Keep (Ext w w42) := hX42 w (Ext.trans kE3 hEl) (Nat.le_refl _); clear hO42 hEl kG3 kB3 hX42 hg42)
      refine Seg.step rfl rfl (Yd.assign rfl) (Seg.nil (At.then_ (Cd.seq (Cd.region (Seg.step rfl rfl (Yd.move rfl) (Seg.step rfl rfl (Yd.move rfl) (Seg.step rfl rfl (Yd.lenStr rfl rfl) ?_)))))))
      (refine Seg.step rfl rfl (Yd.convI rfl rfl rfl) ?_; rw [u8_wrapN])
      refine Seg.buildSliceV rfl rfl rfl rfl rfl rfl rfl rfl rfl rfl (fun w52 b52 hE52 hB52 hb52 hO52 => ?_)
      have hlt52_0 := Nat.le_trans hEm.size hb52
      replace hEm := Ext.trans hEm hE52
      first | (refine Seg.appI (m := [(octN (n.take i)).length]) rfl rfl rfl rfl rfl (own_ext kG hEn) (own_sl (by assumption)) (Below.size (Ext.trans kE1 hEn)) (by rw [hbl]; show _ + 1 ≤ _; omega) (fun v53 w53 hO53 hg53 hX53 hS53 => ?_); rw [← hgn] at hO53; have kG2 : Keep (OwnI w53 w.heap.size v53 (begF 0 (n.take (i + 1)))) := hO53; have kB2 : Keep (OwnB w53 w.heap.size (.slice ab (octN (n.take i)).length cb) (octN (n.take i))) := own_keep (own_ext kG hEn) (own_ext kB hEn) (by decide) hg53; have kE2 : Keep (Ext w w53) := hX53 w (Ext.trans kE1 hEn) (Nat.le_refl _); have hEm := Ext.refl w53; clear hO53 hEn kG kB hX53 hg53) | (refine Seg.appB (m := [UInt8.ofNat l.length]) rfl rfl rfl rfl rfl (own_ext kB2 hEm) (own_sl (by assumption)) (Below.size (Ext.trans kE2 hEm)) (by show _ + 1 ≤ _; omega) (fun v53 w53 hO53 hg53 hX53 hS53 _ => ?_); have kB3 : Keep (OwnB w53 w.heap.size v53 (octN (n.take i) ++ [UInt8.ofNat l.length])) := hO53; have kG3 : Keep (OwnI w53 w.heap.size _ (begF 0 (n.take (i + 1)))) := own_keep (own_ext kB2 hEm) (own_ext kG2 hEm) (by decide) hg53; have kE3 : Keep (Ext w w53) := hX53 w (Ext.trans kE2 hEm) (Nat.le_refl _); have hEl := Ext.refl w53; clear hO53 hEm kG2 kB2 hX53 hg53) | (refine Seg.appStr (m := l) rfl rfl rfl rfl rfl (own_ext kB3 hEl) (Below.size (Ext.trans kE3 hEl)) (by rw [List.length_append]; show _ + 1 + _ ≤ _; omega) (fun v53 w53 hO53 hg53 hX53 hS53 => ?_); rw [← hdn] at hO53; have kB4 : Keep (OwnB w53 w.heap.size v53 (octN (n.take (i + 1)))) := hO53; have kG4 : Keep (OwnI w53 w.heap.size _ (begF 0 (n.take (i + 1)))) := own_keep (own_ext kB3 hEl) (own_ext kG3 hEl) (by decide) hg53; have kE4 : Keep (Ext w w53) := hX53 w (Ext.trans kE3 hEl) (Nat.le_refl _); clear hO53 hEl kG3 kB3 hX53 hg53)
      refine Seg.step rfl rfl (Yd.assign rfl) (Seg.nil (At.then_ (Cd.region (Seg.step rfl rfl (Yd.move rfl) (Seg.step rfl rfl (Yd.move rfl) ?_)))))
      first | (refine Seg.appI (m := [(octN (n.take i)).length]) rfl rfl rfl rfl rfl (own_ext kG hEn) (own_sl (by assumption)) (Below.size (Ext.trans kE1 hEn)) (by rw [hbl]; show _ + 1 ≤ _; omega) (fun v60 w60 hO60 hg60 hX60 hS60 => ?_); rw [← hgn] at hO60; have kG2 : Keep (OwnI w60 w.heap.size v60 (begF 0 (n.take (i + 1)))) := hO60; have kB2 : Keep (OwnB w60 w.heap.size (.slice ab (octN (n.take i)).length cb) (octN (n.take i))) := own_keep (own_ext kG hEn) (own_ext kB hEn) (by decide) hg60; have kE2 : Keep (Ext w w60) := hX60 w (Ext.trans kE1 hEn) (Nat.le_refl _); have hEm := Ext.refl w60; clear hO60 hEn kG kB hX60 hg60) | (refine Seg.appB (m := [UInt8.ofNat l.length]) rfl rfl rfl rfl rfl (own_ext kB2 hEm) (own_sl (by assumption)) (Below.size (Ext.trans kE2 hEm)) (by show _ + 1 ≤ _; omega) (fun v60 w60 hO60 hg60 hX60 hS60 _ => ?_); have kB3 : Keep (OwnB w60 w.heap.size v60 (octN (n.take i) ++ [UInt8.ofNat l.length])) := hO60; have kG3 : Keep (OwnI w60 w.heap.size _ (begF 0 (n.take (i + 1)))) := own_keep (own_ext kB2 hEm) (own_ext kG2 hEm) (by decide) hg60; have kE3 : Keep (Ext w w60) := hX60 w (Ext.trans kE2 hEm) (Nat.le_refl _); have hEl := Ext.refl w60; clear hO60 hEm kG2 kB2 hX60 hg60) | (refine Seg.appStr (m := l) rfl rfl rfl rfl rfl (own_ext kB3 hEl) (Below.size (Ext.trans kE3 hEl)) (by rw [List.length_append]; show _ + 1 + _ ≤ _; omega) (fun v60 w60 hO60 hg60 hX60 hS60 => ?_); rw [← hdn] at hO60; have kB4 : Keep (OwnB w60 w.heap.size v60 (octN (n.take (i + 1)))) := hO60; have kG4 : Keep (OwnI w60 w.heap.size _ (begF 0 (n.take (i + 1)))) := own_keep (own_ext kB3 hEl) (own_ext kG3 hEl) (by decide) hg60; have kE4 : Keep (Ext w w60) := hX60 w (Ext.trans kE3 hEl) (Nat.le_refl _); clear hO60 hEl kG3 kB3 hX60 hg60)
      refine Seg.step rfl rfl (Yd.assign rfl) (Seg.nil (At.blk (At.then_ (Cd.region (Seg.step rfl rfl (Yd.addI rfl rfl (by omega)) (Seg.step rfl rfl (Yd.move rfl) (Seg.nil ?_)))))))
      exact At.round (⟨i + 1, _, _⟩ : OcS) (.cons rfl (.cons rfl (.cons rfl (.cons rfl (.cons rfl (.nil _)))))) ⟨hlt, kB4, kG4, kE4⟩ (Nat.sub_lt_sub_left hlt (Nat.lt_succ_self i))
    · exfalso; omega
  · have hil : n.take i = n := List.take_of_length_le (by omega)
    rw [hil] at kB kG
    refine Cd.seq (Cd.region (Seg.step rfl rfl (Yd.lss rfl rfl) (Seg.nil (At.then_ (Cd.seq ?_)))))
    refine Cd.condk rfl (fun h23 => ?_) (fun h23 => ?_)
    · exfalso; omega
    · refine Cd.exit (At.then_exit (At.then_exit (At.blk_same (At.then_ (Cd.seq (Cd.region (Seg.step rfl rfl (Yd.move rfl) ?_)))))))
      (refine Seg.step rfl rfl (Yd.bts (l := octN n) rfl rfl rfl rfl (own_sl (own_ext kB hEn))) ?_)
      refine Seg.step rfl rfl (Yd.move rfl) (Seg.step rfl rfl (Yd.assign rfl) (Seg.step rfl rfl (Yd.assign rfl) (Seg.nil (At.then_ (Cd.ret ?_)))))
      exact At.ret Tryz.results87 (.tmp rfl (.tmp rfl .nil)) ⟨⟨_, rfl, own_ext kG hEn⟩, Ext.trans kE1 hEn⟩
/-- p leads to a table that answers as F. -/
def TabAt (w : World) (b bm m : Nat) (F : List UInt8 → Option Nat) : Prop := Bx w b [.map (some bm)] ∧ MapAt w bm m F ∧ b ≠ bm
theorem pnew_any (w : World) : Ret Tryz.prog 17 #[] w fun v w' => (∃ b bm, v = .pointer (some ⟨b, 0, none⟩) ∧ w.heap.size ≤ b ∧ w.heap.size ≤ bm ∧ TabAt w' b bm 0 (fun _ => none)) ∧ Ext w w' := by
  have hE0 := Ext.refl w
  refine Ret.body Tryz.func17 rfl Tryz.ntmps17 rfl (Cd.seq (Cd.region (Seg.step rfl rfl (Yd.assign rfl) (Seg.nil (At.then_ (Cd.seq (Cd.region ?_)))))))
  (refine Seg.makeMap rfl rfl (fun w8 b8 hB8 hM8 hE8 => ?_); have hM := hM8; have hEm := hE8; have hMb := hM8.lt; have hMe := hB8; clear hM8 hE8 hB8)
  refine Seg.step rfl rfl (Yd.buildT (cs := _ :: []) 1 rfl rfl rfl rfl rfl) (Seg.box rfl rfl rfl (fun w10 b10 hE10 hB10 hb10 => ?_))
  have hlt10_0 := Nat.le_trans hEm.size hb10
  replace hM := hM.ext hE10
  replace hEm := Ext.trans hEm hE10
  refine Seg.step rfl rfl (Yd.assign rfl) (Seg.nil (At.then_ (Cd.ret ?_)))
  exact At.ret Tryz.results17 (.tmp rfl .nil) ⟨⟨_, _, rfl, by assumption, by omega, by assumption, hM, by omega⟩, hEm⟩
section
variable {n : Fm} {fr : Fr} {w : World} {T : TypeId}
theorem Yd.lookupN {x y : Operand} {b m : Nat} {l : List UInt8} {F : List UInt8 → Option Nat} (hx : Fr.ev fr x = some (.map (some b))) (hy : Fr.ev fr y = some (.string ⟨l.toArray⟩)) (hM : MapAt w b m F) (hl : l.length ≤ 1000000) (hF : F l = none) :
    Yd Tryz.prog n (.lookup 101 x y true) T fr w (.tuple #[.int .i64 0, .bool false]) w := by
  have h := Yd.lookupM (n := n) (T := T) hx hy hM hl
  rw [hF] at h; exact h
theorem Yd.lookupS {x y : Operand} {b m v : Nat} {l : List UInt8} {F : List UInt8 → Option Nat} (hx : Fr.ev fr x = some (.map (some b))) (hy : Fr.ev fr y = some (.string ⟨l.toArray⟩)) (hM : MapAt w b m F) (hl : l.length ≤ 1000000) (hF : F l = some v) :
    Yd Tryz.prog n (.lookup 101 x y true) T fr w (.tuple #[.int .i64 (v : Nat), .bool true]) w := by
  have h := Yd.lookupM (n := n) (T := T) hx hy hM hl
  rw [hF] at h; exact h
end
/-- What the table answers behind Put, k labels of the name being new to it. -/
def addF' (F : List UInt8 → Option Nat) (n : List (List UInt8)) (at' : Nat) : Nat → (List UInt8 → Option Nat)
  | 0 => F
  | k + 1 => if at' + (octN (n.take k)).length < 16384 then setF (addF' F n at' k) (octN (n.drop k)) (at' + (octN (n.take k)).length) else addF' F n at' k
theorem oct_drop (n : List (List UInt8)) (i : Nat) : (octN n).drop (octN (n.take i)).length = octN (n.drop i) := by
  conv => lhs; rw [← List.take_append_drop i n]
  unfold octN
  rw [List.flatMap_append]
  simp
theorem oct_take (n : List (List UInt8)) (i : Nat) : (octN n).take (octN (n.take i)).length = octN (n.take i) := by
  conv => lhs; rw [← List.take_append_drop i n]
  unfold octN
  rw [List.flatMap_append]
  simp
theorem oct_tl (n : List (List UInt8)) (i : Nat) : (octN (n.take i)).length ≤ (octN n).length := by
  rw [← oct_take n i, List.length_take]; omega
theorem row_ne_map {w : World} {bm m : Nat} {F : List UInt8 → Option Nat} {p : Addr} {cs : List Value} {j : Nat} {v : Value} (h : MapAt w bm m F) (hr : Row w p cs) (hj : cs[j]? = some v) : p.block ≠ bm := fun e => by
  obtain ⟨D, ⟨es, clock, hb, _⟩, _⟩ := h
  have hc := hr j v hj
  have hb2 : (p.add j).block = bm := by rw [← e]; unfold Addr.add; split <;> rfl
  unfold World.cell? at hc
  rw [hb2, hb] at hc
  cases hc
theorem addF_far (F : List UInt8 → Option Nat) (n : List (List UInt8)) (at' : Nat) (h : ¬ at' < 16384) : ∀ k, addF' F n at' k = F
  | 0 => rfl
  | k + 1 => by unfold addF'; rw [if_neg (by omega), addF_far F n at' h k]
theorem pput_any (n : List (List UInt8)) (v0 : Value) (w : World) (b bm m at' k : Nat) (out : List UInt8) (F : List UInt8 → Option Nat) (h0 : NameAt w v0 n) (hz : szN n ≤ 1000) (hc : chkN n = 0) (hT : TabAt w b bm m F) (hm : m ≤ 1000000) (hat : at' ≤ 1000000)
    (hk : (∃ to, k < n.length ∧ F (octN (n.drop k)) = some to ∧ to < 16384 ∧ out = octN (n.take k) ++ beB 2 (49152 + to)) ∨ (k = n.length ∧ out = octN n ++ [0])) (hno : ∀ j, j < k → F (octN (n.drop j)) = none) :
    Ret Tryz.prog 68 #[.pointer (some ⟨b, 0, none⟩), v0, .int .i64 (at' : Nat)] w fun v w' => v = .tuple #[.string ⟨out.toArray⟩, .int .i64 0] ∧ TabAt w' b bm (m + k) (addF' F n at' k) ∧ Wr bm w w' := by
  have hE0 := Ext.refl w
  obtain ⟨hB, hM, hbm⟩ := hT
  have hnl := szN_len n
  have hol := octN_len n
  have hkl : k ≤ n.length := by rcases hk with ⟨_, h, _⟩ | ⟨h, _⟩ <;> omega
  have hbM := hM.lt
  refine Ret.body Tryz.func68 rfl Tryz.ntmps68 rfl (Cd.seq (Cd.region (Seg.step rfl rfl (Yd.assign rfl) (Seg.step rfl rfl (Yd.assign rfl) (Seg.nil (At.then_ (Cd.seq ?_)))))))
  refine Cd.seq (Cd.region (Seg.step rfl rfl (Yd.move rfl) ?_))
  (refine Seg.call rfl rfl (own_of rfl) rfl (dcheck_any n v0 _ h0 (by omega)) ?_; rw [hc]; rintro _ w11 ⟨rfl, hE11⟩)
  replace hE0 := Ext.trans hE0 hE11
  replace hB := hB.ext hE11
  replace hM := hM.ext hE11
  refine Seg.step rfl rfl (Yd.assign rfl) (Seg.nil (At.then_ (Cd.seq (Cd.region (Seg.step rfl rfl (Yd.move rfl) (Seg.step rfl rfl (Yd.neq rfl rfl) (Seg.nil ?_)))))))
  refine At.then_ (Cd.condF rfl (Cd.skip (At.then_ (Cd.seq (Cd.region (Seg.step rfl rfl (Yd.move rfl) ?_))))))
  (refine Seg.call rfl rfl (own_of rfl) rfl (poctets_any n v0 _ (Sl.ext h0 (by assumption)) hz) ?_; rintro _ w27 ⟨⟨u, rfl, hG⟩, hE27⟩)
  replace hE11 := Ext.trans hE11 hE27
  replace hE0 := Ext.trans hE0 hE27
  replace hB := hB.ext hE27
  replace hM := hM.ext hE27
  refine Seg.step rfl rfl (Yd.move rfl) (Seg.step rfl rfl (Yd.extract rfl rfl) (Seg.step rfl rfl (Yd.extract rfl rfl) (Seg.step rfl rfl (Yd.assign rfl) (Seg.step rfl rfl (Yd.assign rfl) (Seg.nil (At.then_ (Cd.seq ?_)))))))
  refine Cd.seq (Cd.region (Seg.step rfl rfl (Yd.move rfl) (Seg.step rfl rfl (Yd.eqlNilP rfl rfl rfl) (Seg.nil (At.then_ (Cd.condF rfl (Cd.skip ?_)))))))
  refine At.then_ (Cd.seq ?_)
  have kE : Keep (Ext w w27) := by assumption
  have hcp := own_cap hG
  have hSall := own_sl hG
  obtain ⟨ao, c, rfl, hl0, hr0, hz0⟩ := own_sl hG
  rw [begF_len] at hl0 hz0 hcp hSall ⊢
  have hcp := hcp _ _ _ rfl
  have hBl := begF_len n 0
  clear hG hE0
  have hEn := Ext.refl w27
  refine Cd.region (Seg.step rfl rfl (Yd.move rfl) (Seg.step rfl rfl (Yd.addS (l := octN n) (m := [0]) rfl rfl (by show _ + 1 ≤ _; omega)) (Seg.step rfl rfl (Yd.assign rfl) (Seg.nil (At.then_ ?_)))))
  refine Cd.cut (σ := Value) (fun t => [(0, .pointer (some ⟨b, 0, none⟩)), (2, .int .i64 (at' : Nat)), (9, .string ⟨(octN n).toArray⟩), (10, t), (11, .string ⟨out.toArray⟩)]) (fun t w' => Sl w' 1 t k (intsN ((begF 0 n).take k)) ∧ Ext w27 w') ?_ (fun t3 w3 hh => ?_)
  · refine Cd.seq (Cd.region (Seg.step rfl rfl (Yd.move rfl) (Seg.step rfl rfl (Yd.lenS rfl rfl) (Seg.step rfl rfl (Yd.move rfl) (Seg.nil (At.then_ (Cd.block ?_)))))))
    refine Cd.loop (σ := Nat) (fun t => [(0, .pointer (some ⟨b, 0, none⟩)), (2, .int .i64 (at' : Nat)), (9, .string ⟨(octN n).toArray⟩), (10, .slice ao n.length c), (11, .string ⟨(octN n ++ [0]).toArray⟩), (34, .slice ao n.length c), (35, .int .i64 (n.length : Int)), (36, .int .i64 (t : Int))])
      (fun t w' => t ≤ k ∧ Ext w27 w') (fun t => k - t) 0 (.cons rfl (.cons rfl (.cons rfl (.cons rfl (.cons rfl (.cons rfl (.cons rfl (.cons rfl (.nil _))))))))) ⟨Nat.zero_le _, hEn⟩ ?_
    clear hEn
    rintro i w1 ⟨hi, hEn⟩
    have hB1 := hB.ext hEn
    have hM1 := hM.ext hEn
    by_cases hik : i < k
    · obtain ⟨a, rfl⟩ : ∃ a, ao = some a := by
        cases ao with
        | none => have := hz0 rfl; omega
        | some a => exact ⟨a, rfl⟩
      have hr0 := hr0 a rfl
      have hbi := begF_at n 0 i (by omega)
      rw [Nat.zero_add] at hbi
      have htl := oct_tl n i
      have hF := hno i hik
      rw [← oct_drop n i] at hF
      have hdl : ((octN n).drop (octN (n.take i)).length).length ≤ 1000000 := by rw [List.length_drop]; omega
      refine Cd.seq (Cd.region (Seg.step rfl rfl (Yd.lss rfl rfl) (Seg.nil (At.then_ (Cd.seq ?_)))))
      refine Cd.condk rfl (fun h34 => ?_) (fun h34 => ?_)
      · refine Cd.skip (At.then_ (Cd.seq (Cd.block (Cd.seq (Cd.region (Seg.step rfl rfl (Yd.move rfl) (Seg.step rfl rfl (Yd.indexAddr1 rfl rfl rfl (NatOf.cast _) (by omega)) ?_)))))))
        refine Seg.step rfl rfl (Yd.load1 rfl rfl ((hr0.ext hEn) _ _ (intsN_at hbi))) (Seg.step rfl rfl (Yd.assign rfl) (Seg.step rfl rfl (Yd.assign rfl) (Seg.nil (At.then_ (Cd.seq (Cd.quiet (by kernel_rfl) (by kernel_rfl) (SegQ.step rfl rfl (fun w' hw' => Yd.move rfl) ?_)))))))
        refine SegQ.step rfl rfl (fun w' hw' => Yd.nilCheckP rfl) (SegQ.step rfl rfl (fun w' hw' => Yd.fieldAddr rfl rfl) (SegQ.step rfl rfl (fun w' hw' => (Yd.loadM rfl ((hB1.ext hw').row _ _ rfl))) (SegQ.step rfl rfl (fun w' hw' => Yd.move rfl) (SegQ.step rfl rfl (fun w' hw' => Yd.move rfl) (SegQ.step rfl rfl (fun w' hw' => Yd.slStrL rfl rfl rfl (NatOf.cast _) (by omega)) (SegQ.step rfl rfl (fun w' hw' => (Yd.lookupN rfl rfl (hM1.ext hw') hdl hF)) (SegQ.step rfl rfl (fun w' hw' => Yd.move rfl) ?_)))))))
        refine SegQ.step rfl rfl (fun w' hw' => Yd.extract rfl rfl) (SegQ.step rfl rfl (fun w' hw' => Yd.extract rfl rfl) (SegQ.step rfl rfl (fun w' hw' => Yd.assign rfl) (SegQ.step rfl rfl (fun w' hw' => Yd.assign rfl) (SegQ.nil fun w64 hE64 => ?_))))
        replace hEn := Ext.trans hEn hE64
        replace hB1 := hB1.ext hE64
        replace hM1 := hM1.ext hE64
        refine At.then_ (Cd.seq (Cd.region (Seg.step rfl rfl (Yd.move rfl) (Seg.nil (At.then_ (Cd.condF rfl (Cd.skip ?_)))))))
        refine At.blk (At.then_ (Cd.region (Seg.step rfl rfl (Yd.addI rfl rfl (by omega)) (Seg.step rfl rfl (Yd.move rfl) (Seg.nil ?_)))))
        exact At.round (i + 1) (.cons rfl (.cons rfl (.cons rfl (.cons rfl (.cons rfl (.cons rfl (.cons rfl (.cons rfl (.nil _))))))))) ⟨hik, hEn⟩ (Nat.sub_lt_sub_left hik (Nat.lt_succ_self i))
      · exfalso; omega
    · obtain rfl : i = k := by omega
      rcases hk with ⟨to, hkn, hFs, hto, hout⟩ | ⟨hkn, rfl⟩
      · rw [← oct_take n i] at hout
        subst hout
        have hb2 := beB_len 2 (49152 + to)
        have htk2 : ((octN n).take (octN (n.take i)).length).length = (octN (n.take i)).length := by rw [oct_take]
        have htl2 := oct_tl n i
        have hS9 : Sl w27 1 (sliced ao 0 i c 1) i (intsN ((begF 0 n).take i)) := by
          have := Sl.cut (lo := 0) (hi := i) hSall (Nat.zero_le _) (by omega) hcp
          simpa [intsN, List.map_take] using this
        clear hSall
        obtain ⟨a, rfl⟩ : ∃ a, ao = some a := by
          cases ao with
          | none => have := hz0 rfl; omega
          | some a => exact ⟨a, rfl⟩
        have hr0 := hr0 a rfl
        have hbi := begF_at n 0 i (by omega)
        rw [Nat.zero_add] at hbi
        have htl := oct_tl n i
        rw [← oct_drop n i] at hFs
        have hdl : ((octN n).drop (octN (n.take i)).length).length ≤ 1000000 := by rw [List.length_drop]; omega
        refine Cd.seq (Cd.region (Seg.step rfl rfl (Yd.lss rfl rfl) (Seg.nil (At.then_ (Cd.seq ?_)))))
        refine Cd.condk rfl (fun h34 => ?_) (fun h34 => ?_)
        · refine Cd.skip (At.then_ (Cd.seq (Cd.block (Cd.seq (Cd.region (Seg.step rfl rfl (Yd.move rfl) (Seg.step rfl rfl (Yd.indexAddr1 rfl rfl rfl (NatOf.cast _) (by omega)) ?_)))))))
          refine Seg.step rfl rfl (Yd.load1 rfl rfl ((hr0.ext hEn) _ _ (intsN_at hbi))) (Seg.step rfl rfl (Yd.assign rfl) (Seg.step rfl rfl (Yd.assign rfl) (Seg.nil (At.then_ (Cd.seq (Cd.quiet (by kernel_rfl) (by kernel_rfl) (SegQ.step rfl rfl (fun w' hw' => Yd.move rfl) ?_)))))))
          refine SegQ.step rfl rfl (fun w' hw' => Yd.nilCheckP rfl) (SegQ.step rfl rfl (fun w' hw' => Yd.fieldAddr rfl rfl) (SegQ.step rfl rfl (fun w' hw' => (Yd.loadM rfl ((hB1.ext hw').row _ _ rfl))) (SegQ.step rfl rfl (fun w' hw' => Yd.move rfl) (SegQ.step rfl rfl (fun w' hw' => Yd.move rfl) (SegQ.step rfl rfl (fun w' hw' => Yd.slStrL rfl rfl rfl (NatOf.cast _) (by omega)) (SegQ.step rfl rfl (fun w' hw' => (Yd.lookupS rfl rfl (hM1.ext hw') hdl hFs)) (SegQ.step rfl rfl (fun w' hw' => Yd.move rfl) ?_)))))))
          refine SegQ.step rfl rfl (fun w' hw' => Yd.extract rfl rfl) (SegQ.step rfl rfl (fun w' hw' => Yd.extract rfl rfl) (SegQ.step rfl rfl (fun w' hw' => Yd.assign rfl) (SegQ.step rfl rfl (fun w' hw' => Yd.assign rfl) (SegQ.nil fun w64 hE64 => ?_))))
          replace hEn := Ext.trans hEn hE64
          replace hB1 := hB1.ext hE64
          replace hM1 := hM1.ext hE64
          refine At.then_ (Cd.seq (Cd.region (Seg.step rfl rfl (Yd.move rfl) (Seg.nil (At.then_ (Cd.condT rfl (Cd.seq ?_)))))))
          refine Cd.quiet (by kernel_rfl) (by kernel_rfl) (SegQ.step rfl rfl (fun w' hw' => Yd.move rfl) (SegQ.step rfl rfl (fun w' hw' => Yd.move rfl) (SegQ.step rfl rfl (fun w' hw' => Yd.slStrH rfl rfl rfl (NatOf.cast _) (by omega)) (SegQ.step rfl rfl (fun w' hw' => Yd.move rfl) (SegQ.step rfl rfl (fun w' hw' => Yd.addI rfl rfl (by omega)) (SegQ.call rfl rfl (own_of rfl) rfl (fun w' hw' => (oput_any 2 (49152 + to) w' (by omega) (by omega)).mono fun v w2 ⟨hv, h2⟩ => ⟨hv, hw'.trans h2⟩) (SegQ.step rfl rfl (fun w' hw' => Yd.addS rfl rfl (by omega)) ?_)))))))
          refine SegQ.step rfl rfl (fun w' hw' => Yd.assign rfl) (SegQ.nil fun w82 hE82 => ?_)
          replace hE64 := Ext.trans hE64 hE82
          replace hEn := Ext.trans hEn hE82
          replace hB1 := hB1.ext hE82
          replace hM1 := hM1.ext hE82
          refine At.then_ (Cd.seq (Cd.region (Seg.step rfl rfl (Yd.move rfl) (Seg.step rfl rfl (Yd.move rfl) (Seg.step rfl rfl (Yd.slSlH rfl rfl rfl (NatOf.cast _) (by omega)) (Seg.step rfl rfl (Yd.assign rfl) (Seg.nil ?_)))))))
          refine At.then_ (Cd.exit (At.blk_other rfl (At.then_exit (At.then_exit (At.blk_same ?_)))))
          exact At.cut _ (.cons rfl (.cons rfl (.cons rfl (.cons rfl (.cons rfl (.nil _)))))) ⟨Sl.ext hS9 hEn, hEn⟩
        · exfalso; omega
      · have hS9 : Sl w27 1 (.slice ao n.length c) i (intsN ((begF 0 n).take i)) := by
          rw [List.take_of_length_le (by omega), hkn]; exact hSall
        clear hSall
        refine Cd.seq (Cd.region (Seg.step rfl rfl (Yd.lss rfl rfl) (Seg.nil (At.then_ (Cd.seq ?_)))))
        refine Cd.condk rfl (fun h34 => ?_) (fun h34 => ?_)
        · exfalso; omega
        · refine Cd.exit (At.then_exit (At.then_exit (At.blk_same ?_)))
          exact At.cut _ (.cons rfl (.cons rfl (.cons rfl (.cons rfl (.cons rfl (.nil _)))))) ⟨Sl.ext hS9 hEn, hEn⟩
  · obtain ⟨hS, hE3⟩ := hh
    obtain ⟨ao2, c2, rfl, hl2, hr2, hz2⟩ := hS
    clear hSall hr0 hz0 hl0 hcp hEn hk
    have kE3 := Ext.trans kE hE3
    have hB3 := hB.ext hE3
    have hM3 := hM.ext hE3
    have hEn := Ext.refl w3
    by_cases hfar : at' < 16384
    · refine Cd.seq (Cd.seq (Cd.region (Seg.step rfl rfl (Yd.move rfl) (Seg.step rfl rfl (Yd.lss rfl rfl) (Seg.step rfl rfl (Yd.move rfl) (Seg.step rfl rfl (Yd.move rfl) (Seg.step rfl rfl (Yd.geq rfl rfl) ?_)))))))
      refine Seg.step rfl rfl (Yd.pickF rfl rfl) (Seg.nil (At.then_ ?_))
      refine Cd.condk rfl (fun h39 => ?_) (fun h39 => ?_)
      · exfalso; omega
      refine Cd.skip (At.then_ (Cd.seq (Cd.seq (Cd.region (Seg.step rfl rfl (Yd.move rfl) (Seg.step rfl rfl (Yd.nilCheckP rfl) (Seg.step rfl rfl (Yd.fieldAddr rfl rfl) ?_)))))))
      refine Seg.step rfl rfl ((Yd.loadM rfl (hB3.row _ _ rfl))) (Seg.step rfl rfl ((Yd.eqlNilM rfl rfl)) (Seg.nil (At.then_ (Cd.condF rfl (Cd.skip (At.then_ (Cd.seq ?_)))))))
      refine Cd.seq (Cd.region (Seg.step rfl rfl (Yd.move rfl) (Seg.step rfl rfl (Yd.lenS rfl rfl) (Seg.step rfl rfl (Yd.move rfl) (Seg.nil (At.then_ (Cd.block ?_)))))))
      clear hEn
      refine Cd.loop (σ := Nat) (fun t => [(0, .pointer (some ⟨b, 0, none⟩)), (2, .int .i64 (at' : Nat)), (9, .string ⟨(octN n).toArray⟩), (11, .string ⟨out.toArray⟩), (80, .slice ao2 k c2), (81, .int .i64 (k : Int)), (82, .int .i64 (t : Int))])
        (fun t w' => t ≤ k ∧ TabAt w' b bm (m + t) (addF' F n at' t) ∧ Wr bm w3 w') (fun t => k - t) 0 (.cons rfl (.cons rfl (.cons rfl (.cons rfl (.cons rfl (.cons rfl (.cons rfl (.nil _)))))))) ⟨Nat.zero_le _, ⟨hB3, hM3, hbm⟩, (Ext.refl w3).wr bm⟩ ?_
      rintro i w1 ⟨hi, hT1, hW1⟩
      obtain ⟨hB1, hM1, _⟩ := hT1
      have hEn := Ext.refl w1
      by_cases hik : i < k
      · obtain ⟨a, rfl⟩ : ∃ a, ao2 = some a := by
          cases ao2 with
          | none => have := hz2 rfl; omega
          | some a => exact ⟨a, rfl⟩
        have hr0 := hr2 a rfl
        have hbi := begF_at n 0 i (by omega)
        rw [Nat.zero_add] at hbi
        have hbi : ((begF 0 n).take k)[i]? = some (octN (n.take i)).length := by rw [List.getElem?_take, if_pos hik]; exact hbi
        have hr1 := hr0.wr hW1 (row_ne_map hM3 hr0 (intsN_at hbi))
        have htl := oct_tl n i
        have hdl : ((octN n).drop (octN (n.take i)).length).length ≤ 1000000 := by rw [List.length_drop]; omega
        have hdr := oct_drop n i
        have va : (at' : Int) + ((octN (n.take i)).length : Int) = ((at' + (octN (n.take i)).length : Nat) : Int) := rfl
        by_cases hfr : at' + (octN (n.take i)).length < 16384
        · have hA : addF' F n at' (i + 1) = setF (addF' F n at' i) (octN (n.drop i)) (at' + (octN (n.take i)).length) := by
            conv => lhs; unfold addF'
            rw [if_pos hfr]
          rw [← hdr] at hA
          refine Cd.seq (Cd.region (Seg.step rfl rfl (Yd.lss rfl rfl) (Seg.nil (At.then_ (Cd.seq ?_)))))
          refine Cd.condk rfl (fun h46 => ?_) (fun h46 => ?_)
          · refine Cd.skip (At.then_ (Cd.seq (Cd.block (Cd.seq (Cd.region (Seg.step rfl rfl (Yd.indexAddr1 rfl rfl rfl (NatOf.cast _) (by omega)) (Seg.step rfl rfl (Yd.load1 rfl rfl ((hr1.ext hEn) _ _ (intsN_at hbi))) ?_)))))))
            refine Seg.step rfl rfl (Yd.assign rfl) (Seg.nil (At.then_ (Cd.seq (Cd.region (Seg.step rfl rfl (Yd.move rfl) (Seg.step rfl rfl (Yd.move rfl) (Seg.step rfl rfl (Yd.addI rfl rfl (by omega)) ?_)))))))
            refine Seg.step rfl rfl (Yd.lss rfl rfl) (Seg.nil (At.then_ ?_))
            refine Cd.condk rfl (fun h67 => ?_) (fun h67 => ?_)
            · refine Cd.still 10 (by kernel_rfl) (by kernel_rfl) (fun w69 hE69 => ?_)
              replace hW1 := Wr.trans hW1 (Ext.wr hE69 _)
              replace hB1 := hB1.ext hE69
              replace hM1 := hM1.ext hE69
              replace hEn := Ext.trans hEn hE69
              replace hr1 := hr1.ext hE69
              refine SegS.step rfl rfl (Yd.move rfl) (SegS.step rfl rfl (Yd.nilCheckP rfl) (SegS.step rfl rfl (Yd.fieldAddr rfl rfl) (SegS.step rfl rfl ((Yd.loadM rfl (hB1.row _ _ rfl))) (SegS.step rfl rfl (Yd.move rfl) (SegS.step rfl rfl (Yd.move rfl) (SegS.step rfl rfl (Yd.slStrL rfl rfl rfl (NatOf.cast _) (by omega)) (SegS.step rfl rfl (Yd.move rfl) ?_)))))))
              refine SegS.step rfl rfl (Yd.move rfl) (SegS.step rfl rfl (Yd.addI rfl rfl (by omega)) (SegS.nil ?_))
              (refine Seg.mapUpdate (v := at' + (octN (n.take i)).length) rfl rfl rfl rfl hM1 hdl (by omega) (by omega) (fun w81 hW81 hM81 => ?_); rw [← hA] at hM81; have hB8 := hB1.wr hW81 hbm; have hM8 := hM81; have hW8 := hW1.trans hW81)
              refine Seg.nil (At.blk (At.then_ (Cd.region (Seg.step rfl rfl (Yd.addI rfl rfl (by omega)) (Seg.step rfl rfl (Yd.move rfl) (Seg.nil ?_))))))
              exact At.round (i + 1) (.cons rfl (.cons rfl (.cons rfl (.cons rfl (.cons rfl (.cons rfl (.cons rfl (.nil _)))))))) ⟨hik, ⟨hB8, hM8, hbm⟩, hW8⟩ (Nat.sub_lt_sub_left hik (Nat.lt_succ_self i))
            · exfalso; omega
          · exfalso; omega
        · have hA : addF' F n at' (i + 1) = addF' F n at' i := by
            conv => lhs; unfold addF'
            rw [if_neg hfr]
          refine Cd.seq (Cd.region (Seg.step rfl rfl (Yd.lss rfl rfl) (Seg.nil (At.then_ (Cd.seq ?_)))))
          refine Cd.condk rfl (fun h46 => ?_) (fun h46 => ?_)
          · refine Cd.skip (At.then_ (Cd.seq (Cd.block (Cd.seq (Cd.region (Seg.step rfl rfl (Yd.indexAddr1 rfl rfl rfl (NatOf.cast _) (by omega)) (Seg.step rfl rfl (Yd.load1 rfl rfl ((hr1.ext hEn) _ _ (intsN_at hbi))) ?_)))))))
            refine Seg.step rfl rfl (Yd.assign rfl) (Seg.nil (At.then_ (Cd.seq (Cd.region (Seg.step rfl rfl (Yd.move rfl) (Seg.step rfl rfl (Yd.move rfl) (Seg.step rfl rfl (Yd.addI rfl rfl (by omega)) ?_)))))))
            refine Seg.step rfl rfl (Yd.lss rfl rfl) (Seg.nil (At.then_ ?_))
            refine Cd.condk rfl (fun h67 => ?_) (fun h67 => ?_)
            · exfalso; omega
            · refine Cd.skip (At.blk (At.then_ (Cd.region (Seg.step rfl rfl (Yd.addI rfl rfl (by omega)) (Seg.step rfl rfl (Yd.move rfl) (Seg.nil ?_))))))
              exact At.round (i + 1) (.cons rfl (.cons rfl (.cons rfl (.cons rfl (.cons rfl (.cons rfl (.cons rfl (.nil _)))))))) ⟨hik, ⟨hB1, by rw [hA]; exact hM1.mono (by omega), hbm⟩, hW1.trans (hEn.wr bm)⟩ (Nat.sub_lt_sub_left hik (Nat.lt_succ_self i))
          · exfalso; omega
      · obtain rfl : i = k := by omega
        refine Cd.seq (Cd.region (Seg.step rfl rfl (Yd.lss rfl rfl) (Seg.nil (At.then_ (Cd.seq ?_)))))
        refine Cd.condk rfl (fun h46 => ?_) (fun h46 => ?_)
        · exfalso; omega
        · refine Cd.exit (At.then_exit (At.then_exit (At.blk_same (At.then_ (Cd.seq (Cd.region (Seg.step rfl rfl (Yd.move rfl) ?_)))))))
          refine Seg.step rfl rfl (Yd.assign rfl) (Seg.step rfl rfl (Yd.assign rfl) (Seg.nil (At.then_ (Cd.ret ?_))))
          exact At.ret Tryz.results68 (.tmp rfl (.tmp rfl .nil)) ⟨rfl, ⟨hB1, hM1, hbm⟩, (kE3.wr bm).trans (hW1.trans (hEn.wr bm))⟩
    · have hT9 : TabAt w3 b bm (m + k) (addF' F n at' k) := by rw [addF_far F n at' hfar]; exact ⟨hB3, hM3.mono (by omega), hbm⟩
      refine Cd.seq (Cd.seq (Cd.region (Seg.step rfl rfl (Yd.move rfl) (Seg.step rfl rfl (Yd.lss rfl rfl) (Seg.step rfl rfl (Yd.move rfl) (Seg.step rfl rfl (Yd.move rfl) (Seg.step rfl rfl (Yd.geq rfl rfl) ?_)))))))
      refine Seg.step rfl rfl (Yd.pickF rfl rfl) (Seg.nil (At.then_ ?_))
      refine Cd.condk rfl (fun h39 => ?_) (fun h39 => ?_)
      · refine Cd.seq (Cd.region (Seg.step rfl rfl (Yd.move rfl) (Seg.step rfl rfl (Yd.assign rfl) (Seg.step rfl rfl (Yd.assign rfl) (Seg.nil (At.then_ (Cd.ret ?_)))))))
        refine At.then_ret ?_
        exact At.ret Tryz.results68 (.tmp rfl (.tmp rfl .nil)) ⟨rfl, hT9, kE3.wr bm⟩
      · exfalso; omega
