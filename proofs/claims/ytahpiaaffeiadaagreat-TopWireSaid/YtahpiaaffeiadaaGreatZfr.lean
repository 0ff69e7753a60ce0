/- Frames that are cut in two anywhere are joined as they were (plain). Messages go on a wire: wayfindertop.wired. -/
import Derived.Test.YtahpiaaffeiadaaGreatEst
import Derived.Test.YtahpiaaffeiadaaGreatEme
import Derived.Test.YtahpiaaffeiadaaGreatEid
namespace Go.Proofs.YtahpiaaffeiadaaGreat
open Go Go.RowKit
theorem frsF_eq : ∀ (f g : Nat) (X : List UInt8), X.length ≤ f → X.length ≤ g → frsF f X = frsF g X
  | 0, g, X, hf, _ => by
    obtain rfl : X = [] := List.eq_nil_of_length_eq_zero (by omega)
    rw [frsF_no (by unfold whB; simp) g]
    rfl
  | f + 1, g, X, hf, hg => by
    by_cases h : whB X
    · obtain ⟨g', rfl⟩ : ∃ k, g = k + 1 := ⟨g - 1, by have := h.1; omega⟩
      have e := frsF_eq f g' (X.drop (2 + deB (X.take 2))) (by rw [List.length_drop]; have := h.1; omega) (by rw [List.length_drop]; have := h.1; omega)
      unfold frsF
      rw [if_pos h, if_pos h, e]
    · rw [frsF_no h, frsF_no h]
theorem frs_step {X : List UInt8} (h : whB X) : frs X = ((X.drop 2).take (deB (X.take 2)) :: (frs (X.drop (2 + deB (X.take 2)))).1, (frs (X.drop (2 + deB (X.take 2)))).2) := by
  have h2 := h.1
  have e : frs X = frsF (X.length - 1 + 1) X := by unfold frs; rw [Nat.sub_add_cancel (by omega)]
  rw [e]
  unfold frsF
  rw [if_pos h]
  have e2 : frsF (X.length - 1) (X.drop (2 + deB (X.take 2))) = frs (X.drop (2 + deB (X.take 2))) := frsF_eq _ _ _ (by rw [List.length_drop]; omega) (Nat.le_refl _)
  rw [e2]
theorem frs_app (Y : List UInt8) : ∀ (f : Nat) (X : List UInt8), X.length ≤ f → frs (X ++ Y) = ((frs X).1 ++ (frs ((frs X).2 ++ Y)).1, (frs ((frs X).2 ++ Y)).2)
  | f, X, hf => by
    by_cases h : whB X
    · have h2 := h.1
      have h3 := h.2
      match f, hf with
      | 0, hf => omega
      | f + 1, hf =>
        have ht : (X ++ Y).take 2 = X.take 2 := List.take_append_of_le_length h2
        have hw : whB (X ++ Y) := ⟨by rw [List.length_append]; omega, by rw [ht, List.length_append]; omega⟩
        rw [frs_step hw, ht, List.drop_append_of_le_length h2, List.drop_append_of_le_length (by omega), List.take_append_of_le_length (by rw [List.length_drop]; omega), frs_step h]
        rw [frs_app Y f (X.drop (2 + deB (X.take 2))) (by rw [List.length_drop]; omega)]
        rfl
    · have e : frs X = ([], X) := frsF_no h _
      rw [e]
      rfl
def frB (S : List UInt8) : List UInt8 := beB 2 S.length ++ S
theorem frB_len (S : List UInt8) : (frB S).length = 2 + S.length := by unfold frB; rw [List.length_append, beB_len]
theorem frs_all : ∀ L : List (List UInt8), (∀ S ∈ L, S.length ≤ 65535) → frs (L.flatMap frB) = (L, [])
  | [], _ => rfl
  | S :: L, h => by
    have hS := h S List.mem_cons_self
    have ht : ((S :: L).flatMap frB).take 2 = beB 2 S.length := by
      rw [List.flatMap_cons]; unfold frB
      rw [List.append_assoc]; exact List.take_left' (beB_len 2 S.length)
    have hd : deB (((S :: L).flatMap frB).take 2) = S.length := by
      rw [ht, deB_beB, show (256 : Nat) ^ 2 = 65536 by decide]; omega
    have hl : ((S :: L).flatMap frB).length = 2 + S.length + (L.flatMap frB).length := by rw [List.flatMap_cons, List.length_append, frB_len]
    have hw : whB ((S :: L).flatMap frB) := ⟨by omega, by rw [hd]; omega⟩
    rw [frs_step hw, hd]
    have h1 : (((S :: L).flatMap frB).drop 2).take S.length = S := by
      rw [List.flatMap_cons]; unfold frB
      rw [List.append_assoc, List.drop_left' (beB_len 2 S.length), List.take_left]
    have h2 : ((S :: L).flatMap frB).drop (2 + S.length) = L.flatMap frB := by
      rw [List.flatMap_cons]; exact List.drop_left' (frB_len S)
    rw [h1, h2, frs_all L (fun T hT => h T (List.mem_cons_of_mem _ hT))]
/-- Cut in two anywhere, and fed one behind the other. -/
theorem frs_cut {L : List (List UInt8)} (h : ∀ S ∈ L, S.length ≤ 65535) {s : List UInt8} (hs : s = L.flatMap frB) (c : Nat) :
    (frs (s.take c)).1 ++ (frs ((frs (s.take c)).2 ++ s.drop c)).1 = L ∧ (frs ((frs (s.take c)).2 ++ s.drop c)).2 = [] := by
  have h1 := frs_app (s.drop c) (s.take c).length (s.take c) (Nat.le_refl _)
  rw [List.take_append_drop, hs, frs_all L h] at h1
  rw [← hs] at h1
  injection h1 with h2 h3
  exact ⟨h2.symm, h3.symm⟩
end Go.Proofs.YtahpiaaffeiadaaGreat
namespace Go.Proofs.YtahpiaaffeiadaaGreat
open Go Go.RowKit
def hd5 : Hd := ⟨5, false, 0, false, false, false, false, false, false, 0⟩
def q5 (v : Value) : Qn := ⟨[[97]], v, 1, 1⟩
def out5 : List UInt8 := [0, 5, 0, 0, 0, 1, 0, 0, 0, 0, 0, 0, 1, 97, 0, 0, 1, 0, 1]
theorem enc5 (v : Value) : (encT hd5 [q5 v] [q5 v].length).1 = out5 := by kernel_rfl
theorem hd5_ok : HdOk hd5 := ⟨⟨by decide, by decide⟩, ⟨by decide, by decide⟩, by decide, by decide⟩
theorem q5_ok (v : Value) : ∀ q ∈ [q5 v], QnOk q := fun q hq => by
  rw [List.mem_singleton] at hq
  subst hq
  exact ⟨fun l hl => (by have hl : l ∈ [[(97 : UInt8)]] := hl; rw [List.mem_singleton] at hl; subst hl; exact ⟨by decide, by decide⟩), show szN [[97]] ≤ 255 by decide, show 1 < 65536 by decide, show 1 < 65536 by decide⟩
theorem frs5 : frs ([] ++ (beB 2 out5.length ++ out5)) = ([out5], []) := by kernel_rfl
theorem host5 : hostR [195, 188, 46, 65] = ([120, 110, 45, 45, 116, 100, 97, 46, 97], 0) := by kernel_rfl
theorem opt_some {fa : Option Addr} {n : Nat} (h : fa = none → n = 0) (hn : 0 < n) : ∃ a, fa = some a := by
  cases fa with
  | none => have := h rfl; omega
  | some a => exact ⟨a, rfl⟩
theorem wired_any (w : World) : Ret Tryz.prog 4 #[] w fun v w' => v = .bool true ∧ Ext w w' := by
  have hE0 := Ext.refl w
  refine Ret.body Tryz.func4 rfl Tryz.ntmps4 rfl (Cd.seq (Cd.region (Seg.step rfl rfl (Yd.assign rfl) (Seg.nil (At.then_ (Cd.seq (Cd.region ?_)))))))
  refine Seg.step rfl rfl (Yd.buildT (cs := _ :: _ :: _ :: _ :: _ :: _ :: _ :: _ :: _ :: _ :: []) 10 rfl rfl rfl rfl rfl) (Seg.buildSliceV rfl rfl rfl rfl rfl rfl rfl rfl rfl rfl (fun w9 b9 hE9 hB9 hb9 hO9 => ?_))
  have hlt9_0 := Nat.le_trans hE0.size hb9
  replace hE0 := Ext.trans hE0 hE9
  refine Seg.step rfl rfl (Yd.buildT (cs := _ :: _ :: _ :: []) 3 rfl rfl rfl rfl rfl) (Seg.buildSliceV rfl rfl rfl rfl rfl rfl rfl rfl rfl rfl (fun w11 b11 hE11 hB11 hb11 hO11 => ?_))
  have hlt11_0 := Nat.le_trans hE9.size hb11
  have hlt11_1 := Nat.lt_of_lt_of_le hB9.lt hb11
  have hlt11_2 := Nat.le_trans hE0.size hb11
  replace hE9 := Ext.trans hE9 hE11
  replace hB9 := hB9.ext hE11
  replace hO9 := own_ext hO9 hE11
  replace hE0 := Ext.trans hE0 hE11
  refine Seg.step rfl rfl (Yd.buildT (cs := _ :: _ :: _ :: _ :: _ :: _ :: _ :: _ :: _ :: _ :: _ :: _ :: _ :: _ :: []) 14 rfl rfl rfl rfl rfl) (Seg.alloc rfl rfl rfl (fun w13 b13 hE13 hB13 hb13 => ?_))
  have hlt13_0 := Nat.le_trans hE11.size hb13
  have hlt13_1 := Nat.lt_of_lt_of_le hB11.lt hb13
  have hlt13_2 := Nat.le_trans hE9.size hb13
  have hlt13_3 := Nat.lt_of_lt_of_le hB9.lt hb13
  have hlt13_4 := Nat.le_trans hE0.size hb13
  replace hE11 := Ext.trans hE11 hE13
  replace hB11 := hB11.ext hE13
  replace hO11 := own_ext hO11 hE13
  replace hE9 := Ext.trans hE9 hE13
  replace hB9 := hB9.ext hE13
  replace hO9 := own_ext hO9 hE13
  replace hE0 := Ext.trans hE0 hE13
  refine Seg.storeN rfl rfl rfl rfl hB13 rfl (by first | assumption | exact List.all_eq_true.1 rfl) (fun w14 hW14 hB14 => ?_)
  clear hB13
  replace hE13 := Ext.wr' hE13 hW14 (by omega)
  replace hE11 := Ext.wr' hE11 hW14 (by omega)
  replace hB11 := hB11.wr hW14 (by omega)
  replace hO11 := own_wr hO11 hW14 (by simp [Value.ownBlock]; omega)
  replace hE9 := Ext.wr' hE9 hW14 (by omega)
  replace hB9 := hB9.wr hW14 (by omega)
  replace hO9 := own_wr hO9 hW14 (by simp [Value.ownBlock]; omega)
  replace hE0 := Ext.wr' hE0 hW14 (by omega)
  refine Seg.nil (At.then_ (Cd.seq (Cd.region (Seg.step rfl rfl (Yd.loadN rfl rfl rfl hB14.row) ?_))))
  have hQs : QsAt w14 _ [q5 (.slice (some ⟨b9, 0, none⟩) 1 1)] := ⟨own_sl hO11, fun q hq => (by rw [List.mem_singleton] at hq; subst hq; exact own_sl hO9)⟩
  refine Seg.call rfl rfl (own_of rfl) rfl (mencode_any hd5 _ [q5 _] _ hd5_ok hQs (show 1 ≤ 100 by decide) (q5_ok _)) ?_
  rw [enc5]
  rintro _ w15 ⟨rfl, hE15⟩
  have hE0 : Ext w w15 := Ext.trans (by assumption) hE15
  clear hQs hO9 hO11 hB9 hB11 hB14 hW14 hE15
  have h19 : (out5.length : Int) = 19 := rfl
  refine Seg.step rfl rfl (Yd.move rfl) (Seg.step rfl rfl (Yd.extract rfl rfl) (Seg.step rfl rfl (Yd.extract rfl rfl) (Seg.step rfl rfl (Yd.assign rfl) (Seg.step rfl rfl (Yd.assign rfl) (Seg.nil (At.then_ (Cd.seq ?_)))))))
  refine Cd.region (Seg.step rfl rfl (Yd.move rfl) ?_)
  (refine Seg.call rfl rfl (own_of rfl) rfl (sput_any out5 _ (by decide)) ?_; rintro _ w30 ⟨rfl, hE30⟩)
  replace hE0 := Ext.trans hE0 hE30
  refine Seg.step rfl rfl (Yd.move rfl) (Seg.step rfl rfl (Yd.extract rfl rfl) (Seg.step rfl rfl (Yd.extract rfl rfl) (Seg.step rfl rfl (Yd.assign rfl) (Seg.step rfl rfl (Yd.assign rfl) (Seg.nil (At.then_ (Cd.seq ?_)))))))
  refine Cd.region (Seg.alloc rfl rfl rfl (fun w40 b40 hE40 hB40 hb40 => ?_))
  have hlt40_0 := Nat.le_trans hE30.size hb40
  have hlt40_1 := Nat.le_trans hE0.size hb40
  replace hE30 := Ext.trans hE30 hE40
  replace hE0 := Ext.trans hE0 hE40
  refine Seg.nil (At.then_ (Cd.seq (Cd.region (Seg.step rfl rfl (Yd.move rfl) ?_))))
  (refine Seg.call rfl rfl (own_of rfl) rfl (sfeed_any [] (beB 2 out5.length ++ out5) [] _ _ ⟨rfl, .pointer none, 0, 0, (by assumption), rfl, fun h => absurd h (Nat.lt_irrefl 0), fun h => absurd h (Nat.not_lt_zero 1)⟩ (by decide)) ?_; rw [frs5]; rintro _ w46 ⟨⟨fa, fc, rfl, _, hr46, hz46⟩, _, _, hW46⟩; obtain ⟨fp, rfl⟩ := opt_some hz46 Nat.one_pos; have hrow : Row w46 fp [.string ⟨out5.toArray⟩] := hr46 _ rfl; have hE9 := Ext.refl w46)
  replace hE40 := Ext.wr' hE40 hW46 (by omega)
  replace hE30 := Ext.wr' hE30 hW46 (by omega)
  replace hE0 := Ext.wr' hE0 hW46 (by omega)
  refine Seg.step rfl rfl (Yd.assign rfl) (Seg.nil (At.then_ (Cd.seq (Cd.region ?_))))
  (refine Seg.call rfl rfl (own_of rfl) rfl (ihost_any [195, 188, 46, 65] _ (by decide)) ?_; rw [host5]; rintro _ w52 ⟨rfl, hE52⟩)
  replace hW46 := Wr.trans hW46 (Ext.wr hE52 _)
  replace hrow := hrow.ext hE52
  replace hE9 := Ext.trans hE9 hE52
  replace hE40 := Ext.trans hE40 hE52
  replace hE30 := Ext.trans hE30 hE52
  replace hE0 := Ext.trans hE0 hE52
  refine Seg.step rfl rfl (Yd.move rfl) (Seg.step rfl rfl (Yd.extract rfl rfl) (Seg.step rfl rfl (Yd.extract rfl rfl) (Seg.step rfl rfl (Yd.assign rfl) (Seg.step rfl rfl (Yd.assign rfl) (Seg.nil (At.then_ (Cd.seq ?_)))))))
  refine Cd.region (Seg.step rfl rfl (Yd.move rfl) (Seg.step rfl rfl (Yd.eql rfl rfl) (Seg.step rfl rfl (Yd.move rfl) (Seg.step rfl rfl (Yd.move rfl) (Seg.step rfl rfl (Yd.eql rfl rfl) (Seg.step rfl rfl (Yd.pickT rfl rfl) (Seg.step rfl rfl (Yd.move rfl) ?_)))))))
  refine Seg.step rfl rfl (Yd.move rfl) (Seg.step rfl rfl (Yd.lenStr rfl rfl) (Seg.step rfl rfl (Yd.eql rfl rfl) (Seg.step rfl rfl (Yd.pickT rfl rfl) (Seg.step rfl rfl (Yd.move rfl) (Seg.step rfl rfl (Yd.move rfl) (Seg.step rfl rfl (Yd.lenS rfl rfl) (Seg.step rfl rfl (Yd.eql rfl rfl) ?_)))))))
  refine Seg.step rfl rfl (Yd.pickT rfl rfl) (Seg.step rfl rfl (Yd.move rfl) (Seg.step rfl rfl (Yd.move rfl) ?_))
  (refine Seg.step rfl rfl (Yd.indexAddr1 rfl rfl rfl (NatOf.cast 0) Nat.one_pos) ?_)
  refine Seg.step rfl rfl (Yd.load1 rfl rfl (hrow 0 _ rfl)) (Seg.step rfl rfl (Yd.move rfl) (Seg.step rfl rfl (Yd.eqlS rfl rfl) (Seg.step rfl rfl (Yd.pickT rfl rfl) (Seg.step rfl rfl (Yd.move rfl) (Seg.step rfl rfl (Yd.move rfl) (Seg.step rfl rfl (Yd.eqlS rfl rfl) (Seg.step rfl rfl (Yd.pickT rfl rfl) ?_)))))))
  refine Seg.step rfl rfl (Yd.move rfl) (Seg.step rfl rfl (Yd.move rfl) (Seg.step rfl rfl (Yd.eql rfl rfl) (Seg.step rfl rfl (Yd.pickT rfl rfl) (Seg.step rfl rfl (Yd.assign rfl) (Seg.nil (At.then_ (Cd.ret ?_)))))))
  exact At.ret Tryz.results4 (.tmp rfl .nil) ⟨rfl, hE0⟩
end Go.Proofs.YtahpiaaffeiadaaGreat
