/- Names written, with a table or without one. -/
import Derived.Test.YtahpiaaffeiadaaGreatErd
namespace Go.Proofs.YtahpiaaffeiadaaGreat
open Go Go.RowKit
theorem chk_ok {n : List (List UInt8)} (h : chkN n = 0) : labN n ∧ szN n ≤ 255 := by
  unfold chkN at h
  split at h
  · rename_i h1
    split at h
    · rename_i h2; exact ⟨h1, h2⟩
    · omega
  · omega
/-- A table of names, or none. -/
def TabV (w : World) (po : Option Addr) (bm m : Nat) (F : List UInt8 → Option Nat) : Prop := po = none ∨ ∃ b, po = some ⟨b, 0, none⟩ ∧ TabAt w b bm m F
/-- What writing a name may change. -/
structure Chg (po : Option Addr) (bm : Nat) (w w' : World) : Prop where
  wr : Wr bm w w'
  none' : po = none → Ext w w'
theorem Chg.of {po : Option Addr} {bm : Nat} {w w' : World} (h : Ext w w') : Chg po bm w w' := ⟨h.wr bm, fun _ => h⟩
theorem Chg.trans {po : Option Addr} {bm : Nat} {u v w : World} (h : Chg po bm u v) (g : Chg po bm v w) : Chg po bm u w := ⟨h.wr.trans g.wr, fun e => (h.none' e).trans (g.none' e)⟩
theorem TabV.ext {w w' : World} {po : Option Addr} {bm m : Nat} {F : List UInt8 → Option Nat} (h : TabV w po bm m F) (hE : Ext w w') : TabV w' po bm m F := by
  rcases h with h | ⟨b, h, h2⟩
  · exact .inl h
  · exact .inr ⟨b, h, h2.ext hE⟩
/-- What is written at a place of a message tells a name, and what the table tells then can be read. -/
structure PutOk (n : List (List UInt8)) (at' : Nat) (F : List UInt8 → Option Nat) (out : List UInt8) (F' : List UInt8 → Option Nat) : Prop where
  ok : okF F'
  len : 1 ≤ out.length ∧ out.length ≤ 260
  rd : ∀ X, X.length = at' → TabRd X F → (∃ f, Rdn (X ++ out) f at' at' n (at' + out.length)) ∧ TabRd (X ++ out) F'
theorem putok_tab {n : List (List UInt8)} {F : List UInt8 → Option Nat} (at' : Nat) (hF : okF F) (hc : chkN n = 0) : PutOk n at' F (outK F n) (addF' F n at' (hitK F n)) where
  ok := okF_add hF n at' _
  len := by
    have h1 := out_len (F := F) n
    have h2 := out_pos hF n
    have := (chk_ok hc).2
    omega
  rd := fun X hX hT => by
    obtain ⟨f, hr⟩ := put_rd hF hT n (chk_ok hc).1 [] 0 (Nat.zero_le _)
    have ht := tab_put hF hT n (chk_ok hc).1 [] (hitK F n) (Nat.le_refl _)
    rw [List.append_nil] at hr ht
    have hz0 : (octN (n.take 0)).length = 0 := rfl
    rw [hz0, Nat.add_zero, List.drop_zero] at hr
    subst hX
    exact ⟨⟨f, hr⟩, ht⟩
theorem putok_nil {n : List (List UInt8)} {F : List UInt8 → Option Nat} (at' : Nat) (hF : okF F) (hc : chkN n = 0) : PutOk n at' F (octN n ++ [0]) F where
  ok := hF
  len := by
    have h1 := octN_len n
    have := (chk_ok hc).2
    rw [List.length_append]
    exact ⟨by show 1 ≤ _ + 1; omega, by show _ + 1 ≤ 260; omega⟩
  rd := fun X hX hT => by
    have e2 : X ++ (octN n ++ [0]) = (X ++ octN n) ++ (0 : UInt8) :: [] := by simp
    have hp : Rdn (X ++ octN n ++ [0]) 0 (X ++ octN n).length X.length [] ((X ++ octN n).length + 1) :=
      .zero (by rw [List.length_append]; simp) (by rw [show X ++ octN n ++ [0] = (X ++ octN n) ++ (0 : UInt8) :: [] by simp, getD_mid]; rfl)
    have := rd_labels n X [0] 0 X.length ((X ++ octN n).length + 1) [] (chk_ok hc).1 (by rw [← List.length_append]; exact hp)
    rw [List.append_nil] at this
    subst hX
    refine ⟨⟨0 + n.length, ?_⟩, by rw [← List.append_assoc]; exact (hT.more _).more _⟩
    rw [← List.append_assoc]
    have e3 : X.length + (octN n ++ [0]).length = (X ++ octN n).length + 1 := by rw [List.length_append, List.length_append]; show _ + (_ + 1) = _; omega
    rw [e3]
    exact this
theorem pputnil_any (n : List (List UInt8)) (v0 : Value) (w : World) (at' : Nat) (h0 : NameAt w v0 n) (hc : chkN n = 0) :
    Ret Tryz.prog 68 #[.pointer none, v0, .int .i64 (at' : Nat)] w fun v w' => v = .tuple #[.string ⟨(octN n ++ [0]).toArray⟩, .int .i64 0] ∧ Ext w w' := by
  have hE0 := Ext.refl w
  have hz := (chk_ok hc).2
  have hol := octN_len n
  refine Ret.body Tryz.func68 rfl Tryz.ntmps68 rfl (Cd.seq (Cd.region (Seg.step rfl rfl (Yd.assign rfl) (Seg.step rfl rfl (Yd.assign rfl) (Seg.nil (At.then_ (Cd.seq ?_)))))))
  refine Cd.seq (Cd.region (Seg.step rfl rfl (Yd.move rfl) ?_))
  (refine Seg.call rfl rfl (own_of rfl) rfl (dcheck_any n v0 _ (Sl.ext h0 hE0) (by omega)) ?_; rw [hc]; rintro _ w11 ⟨rfl, hE11⟩)
  replace hE0 := Ext.trans hE0 hE11
  refine Seg.step rfl rfl (Yd.assign rfl) (Seg.nil (At.then_ (Cd.seq (Cd.region (Seg.step rfl rfl (Yd.move rfl) (Seg.step rfl rfl (Yd.neq rfl rfl) (Seg.nil ?_)))))))
  refine At.then_ (Cd.condF rfl (Cd.skip (At.then_ (Cd.seq (Cd.region (Seg.step rfl rfl (Yd.move rfl) ?_))))))
  (refine Seg.call rfl rfl (own_of rfl) rfl (poctets_any n v0 _ (Sl.ext h0 (by assumption)) (by omega)) ?_; rintro _ w27 ⟨⟨u, rfl, hG⟩, hE27⟩)
  replace hE11 := Ext.trans hE11 hE27
  replace hE0 := Ext.trans hE0 hE27
  refine Seg.step rfl rfl (Yd.move rfl) (Seg.step rfl rfl (Yd.extract rfl rfl) (Seg.step rfl rfl (Yd.extract rfl rfl) (Seg.step rfl rfl (Yd.assign rfl) (Seg.step rfl rfl (Yd.assign rfl) (Seg.nil (At.then_ (Cd.seq ?_)))))))
  refine Cd.seq (Cd.region (Seg.step rfl rfl (Yd.move rfl) (Seg.step rfl rfl (Yd.eqlNilP rfl rfl rfl) (Seg.nil (At.then_ (Cd.condT rfl (Cd.seq ?_)))))))
  refine Cd.region (Seg.step rfl rfl (Yd.move rfl) ?_)
  (refine Seg.step rfl rfl (Yd.addS (l := octN n) (m := [0]) rfl rfl (by show _ + 1 ≤ _; omega)) ?_)
  refine Seg.step rfl rfl (Yd.assign rfl) (Seg.step rfl rfl (Yd.assign rfl) (Seg.nil (At.then_ (Cd.ret (At.then_ret ?_)))))
  exact At.ret Tryz.results68 (.tmp rfl (.tmp rfl .nil)) ⟨rfl, hE0⟩
theorem tput_any (n : List (List UInt8)) (v0 : Value) (w : World) (po : Option Addr) (bm m at' : Nat) (F : List UInt8 → Option Nat) (h0 : NameAt w v0 n) (hc : chkN n = 0) (hT : TabV w po bm m F) (hF : okF F) (hm : m ≤ 1000000) (hat : at' ≤ 1000000) :
    Ret Tryz.prog 68 #[.pointer po, v0, .int .i64 (at' : Nat)] w fun v w' => ∃ out F' m', v = .tuple #[.string ⟨out.toArray⟩, .int .i64 0] ∧ PutOk n at' F out F' ∧ TabV w' po bm m' F' ∧ m' ≤ m + 256 ∧ Chg po bm w w' := by
  rcases hT with rfl | ⟨b, rfl, hT⟩
  · exact (pputnil_any n v0 w at' h0 hc).mono fun v w' ⟨hv, hE⟩ => ⟨_, F, m, hv, putok_nil at' hF hc, .inl rfl, Nat.le_add_right _ _, Chg.of hE⟩
  · have hz := (chk_ok hc).2
    have hk := hit_le F n
    have hnl := szN_len n
    exact (pput_any n v0 w b bm m at' (hitK F n) (outK F n) F h0 (by omega) hc hT hm hat (out_spec hF n) (hit_no F n)).mono fun v w' ⟨hv, hT', hW⟩ => ⟨_, _, _, hv, putok_tab at' hF hc, .inr ⟨b, rfl, hT'⟩, by omega, ⟨hW, fun h => by cases h⟩⟩
end Go.Proofs.YtahpiaaffeiadaaGreat
