/- chain.Follow: the closure, the copy of a name; the walk of the chain. -/
import Derived.Test.YtidhelgoopdloaaLook
namespace Go.Proofs.Ytidhelgoopdloaa
open Go Go.RowKit
def leastOf (c : Bool) (t n : Int) : Int := if c = false ∨ n < t then n else t
theorem least_any (bc bt : Nat) (c : Bool) (t n : Int) (w : World) (hc : Bx w bc [.bool c]) (ht : Bx w bt [.int .i64 t]) (hne : bc ≠ bt) :
    Ret Try.prog 24 #[.int .i64 n, .pointer (some ⟨bc, 0, none⟩), .pointer (some ⟨bt, 0, none⟩)] w fun _ w' => Bx w' bc [.bool true] ∧ Bx w' bt [.int .i64 (leastOf c t n)] ∧ ∃ m, Wr bt w m ∧ Wr bc m w' := by
  refine Ret.body Try.func24 rfl Try.ntmps24 rfl ?_
  cases c
  · refine Cd.seq ?_
    refine Cd.region ?_
    refine Seg.step rfl rfl (Yd.load1 rfl rfl hc.row.head) ?_
    refine Seg.step rfl rfl (Yd.not rfl) ?_
    refine Seg.step rfl rfl (Yd.move rfl) ?_
    refine Seg.skip rfl rfl ?_
    refine Seg.skip rfl rfl ?_
    refine Seg.skip rfl rfl ?_
    refine Seg.step rfl rfl (Yd.pickT rfl rfl) ?_
    refine Seg.nil ?_
    refine At.then_ ?_
    refine Cd.condT rfl ?_
    refine Cd.region ?_
    refine Seg.step rfl rfl (Yd.move rfl) ?_
    refine Seg.store1h rfl rfl rfl rfl rfl ht (by first | omega | (simp; done) | exact Nat.le_of_ble_eq_true rfl) (fun w15 hW15 hB15 => ?_)
    clear ht
    replace hc := hc.wr hW15 (by omega)
    refine Seg.store1h rfl rfl rfl rfl rfl hc (by first | omega | (simp; done) | exact Nat.le_of_ble_eq_true rfl) (fun w16 hW16 hB16 => ?_)
    clear hc
    replace hB15 := hB15.wr hW16 (by omega)
    refine Seg.nil ?_
    exact At.fin Try.results24 .nil ⟨by assumption, by rw [show leastOf false t n = n from if_pos (.inl rfl)]; assumption, _, by assumption, by assumption⟩
  · refine Cd.seq ?_
    refine Cd.region ?_
    refine Seg.step rfl rfl (Yd.load1 rfl rfl hc.row.head) ?_
    refine Seg.step rfl rfl (Yd.not rfl) ?_
    refine Seg.step rfl rfl (Yd.move rfl) ?_
    refine Seg.step rfl rfl (Yd.move rfl) ?_
    refine Seg.step rfl rfl (Yd.load1 rfl rfl ht.row.head) ?_
    refine Seg.step rfl rfl (Yd.lss rfl rfl) ?_
    refine Seg.step rfl rfl (Yd.pickF rfl rfl) ?_
    refine Seg.nil ?_
    refine At.then_ ?_
    refine Cd.condk rfl (fun h12 => ?_) (fun h12 => ?_)
    · refine Cd.region ?_
      refine Seg.step rfl rfl (Yd.move rfl) ?_
      refine Seg.store1h rfl rfl rfl rfl rfl ht (by first | omega | (simp; done) | exact Nat.le_of_ble_eq_true rfl) (fun w16 hW16 hB16 => ?_)
      clear ht
      replace hc := hc.wr hW16 (by omega)
      refine Seg.store1h rfl rfl rfl rfl rfl hc (by first | omega | (simp; done) | exact Nat.le_of_ble_eq_true rfl) (fun w17 hW17 hB17 => ?_)
      clear hc
      replace hB16 := hB16.wr hW17 (by omega)
      refine Seg.nil ?_
      exact At.fin Try.results24 .nil ⟨by assumption, by rw [show leastOf true t n = n from if_pos (.inr (by assumption))]; assumption, _, by assumption, by assumption⟩
    · refine Cd.skip ?_
      exact At.fin Try.results24 .nil ⟨hc, by rw [show leastOf true t n = t from if_neg (fun h => by rcases h with h | h; cases h; exact absurd h (by assumption))]; exact ht, _, Ext.wr (Ext.refl w) bt, Ext.wr (Ext.refl w) bc⟩
theorem name_nil {w : World} {ao : Option Addr} {c : Nat} {xs : Name} (h : NameAt w (.slice ao xs.length c) xs) (ha : ao.isNone = true) : NameAt w (.slice none 0 0) xs := by
  obtain ⟨a, c', he, h1, h2, h3⟩ := h
  cases he
  cases ao with
  | some a => cases ha
  | none =>
    have h0 := h3 rfl
    exact ⟨none, 0, by rw [h0], h1, h2, h3⟩
theorem clone_any (xs : Name) (v0 : Value) (w : World) (h0 : NameAt w v0 xs) (hx : xs.length ≤ 1000) : Ret Try.prog 26 #[v0] w fun v w' => NameAt w' v xs ∧ Above w.heap.size v ∧ Ext w w' := by
  have hE0 := Ext.refl w
  obtain ⟨ao, c, rfl, hl0, hr0, hz0⟩ := h0
  have hs0 : Sl w 1 (.slice ao xs.length c) xs.length (strV xs) := ⟨ao, c, rfl, hl0, hr0, hz0⟩
  refine Ret.body Try.func26 rfl Try.ntmps26 rfl ?_
  refine Cd.seq ?_
  refine Cd.region ?_
  refine Seg.step rfl rfl (Yd.assign rfl) ?_
  refine Seg.nil ?_
  refine At.then_ ?_
  refine Cd.seq ?_
  refine Cd.seq ?_
  refine Cd.region ?_
  refine Seg.step rfl rfl (Yd.move rfl) ?_
  refine Seg.step rfl rfl (Yd.eqlNilS rfl rfl rfl) ?_
  refine Seg.nil ?_
  refine At.then_ ?_
  refine Cd.condkb rfl (fun h13 => ?_) (fun h13 => ?_)
  · refine Cd.seq ?_
    refine Cd.region ?_
    refine Seg.step rfl rfl (Yd.assign rfl) ?_
    refine Seg.nil ?_
    refine At.then_ ?_
    refine Cd.ret ?_
    refine At.then_ret ?_
    exact At.ret Try.results26 (.tmp rfl .nil) ⟨name_nil hs0 (by assumption), Above.nil _, hE0⟩
  · refine Cd.skip ?_
    refine At.then_ ?_
    refine Cd.seq ?_
    refine Cd.region ?_
    refine Seg.buildSlice rfl rfl rfl rfl rfl rfl rfl rfl (fun w28 b28 hE28 hB28 hb28 hO28 => ?_)
    have hlt28_0 := Nat.le_trans hE0.size hb28
    replace hE0 := Ext.trans hE0 hE28
    replace hs0 := hs0.ext hE28
    refine Seg.step rfl rfl (Yd.move rfl) ?_
    (refine Seg.append0 rfl rfl rfl rfl rfl rfl rfl rfl rfl (by assumption) hs0 (strV_one xs) (Below.size (by assumption)) (by omega) rfl (fun v30 w30 hO30 hW30 _ => ?_); obtain ⟨ao30, c30, rfl⟩ := own_shape hO30)
    replace hE28 := Ext.wr' hE28 hW30 (by omega)
    replace hE0 := Ext.wr' hE0 hW30 (by omega)
    refine Seg.step rfl rfl (Yd.assign rfl) ?_
    refine Seg.nil ?_
    refine At.then_ ?_
    refine Cd.ret ?_
    exact At.ret Try.results26 (.tmp rfl .nil) ⟨own_sl (by assumption), own_above (by assumption), hE0⟩
end Go.Proofs.Ytidhelgoopdloaa
