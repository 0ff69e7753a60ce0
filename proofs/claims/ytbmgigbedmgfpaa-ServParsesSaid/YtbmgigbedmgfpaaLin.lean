/- A line's fields; a text's lines, told by an iterator. -/
import Derived.Test.YtbmgigbedmgfpaaAsf
namespace Go.Proofs.Ytbmgigbedmgfpaa
open Go Go.RowKit
/-- A line's fields. -/
def lineF (any : Bool) (l : List UInt8) : List (List UInt8) :=
  if trimCR l = [] ∨ 1000 < (trimCR l).length then [] else
  if any then fieldsB (cutB 35 (trimCR l)).1 else
  if (trimCR l).getD 0 0 = 35 ∨ (trimCR l).getD 0 0 = 59 then [] else fieldsB (trimCR l)
theorem cutB_len (c : UInt8) (l : List UInt8) : (cutB c l).1.length ≤ l.length ∧ (cutB c l).2.1.length ≤ l.length := by
  rcases cutB_idx c l with ⟨_, h⟩ | ⟨n, _, h2, h⟩ <;> rw [h] <;> simp
  omega
theorem nil_at (w : World) : NameAt w (.slice none 0 0) [] := Sl.nil w 1
theorem lineF_any (any : Bool) (l : List UInt8) (w : World) (hl : l.length ≤ 1000000) : Ret Try.prog 31 #[.string ⟨l.toArray⟩, .bool any] w fun v w' => (NameAt w' v (lineF any l) ∧ AbC w.heap.size v) ∧ Ext w w' := by
  have hE0 := Ext.refl w
  have ht := trimCR_len l
  have hc := (cutB_len 35 (trimCR l)).1
  refine Ret.body Try.func31 rfl Try.ntmps31 rfl ?_
  by_cases h1 : trimCR l = []
  · have hF : lineF any l = [] := by unfold lineF; rw [if_pos (.inl h1)]
    rw [hF]
    refine Cd.seq ?_
    refine Cd.region ?_
    refine Seg.step rfl rfl (Yd.assign rfl) ?_
    refine Seg.nil ?_
    refine At.then_ ?_
    refine Cd.seq ?_
    refine Cd.region ?_
    refine Seg.step rfl rfl (Yd.move rfl) ?_
    (refine Seg.call rfl rfl (own_of rfl) rfl (trim_any l _ hl) ?_; rintro _ w10 ⟨rfl, hE10⟩)
    replace hE0 := Ext.trans hE0 hE10
    refine Seg.step rfl rfl (Yd.assign rfl) ?_
    refine Seg.nil ?_
    refine At.then_ ?_
    refine Cd.seq ?_
    refine Cd.seq ?_
    refine Cd.region ?_
    refine Seg.step rfl rfl (Yd.move rfl) ?_
    refine Seg.step rfl rfl (Yd.eqlS rfl rfl) ?_
    refine Seg.step rfl rfl (Yd.move rfl) ?_
    refine Seg.gsplitp rfl rfl (fun h20 => ?_) (fun h20 => ?_)
    · refine Seg.skip rfl rfl ?_
      refine Seg.skip rfl rfl ?_
      refine Seg.skip rfl rfl ?_
      refine Seg.step rfl rfl (Yd.pickT rfl rfl) ?_
      refine Seg.nil ?_
      refine At.then_ ?_
      refine Cd.condT rfl ?_
      refine Cd.seq ?_
      refine Cd.region ?_
      refine Seg.step rfl rfl (Yd.assign rfl) ?_
      refine Seg.nil ?_
      refine At.then_ ?_
      refine Cd.ret ?_
      refine At.then_ret ?_
      exact At.ret Try.results31 (.tmp rfl .nil) ⟨⟨nil_at _, AbC.nil _⟩, by assumption⟩
    · contradiction
  · by_cases h2 : 1000 < (trimCR l).length
    · have hF : lineF any l = [] := by unfold lineF; rw [if_pos (.inr h2)]
      rw [hF]
      refine Cd.seq ?_
      refine Cd.region ?_
      refine Seg.step rfl rfl (Yd.assign rfl) ?_
      refine Seg.nil ?_
      refine At.then_ ?_
      refine Cd.seq ?_
      refine Cd.region ?_
      refine Seg.step rfl rfl (Yd.move rfl) ?_
      (refine Seg.call rfl rfl (own_of rfl) rfl (trim_any l _ hl) ?_; rintro _ w11 ⟨rfl, hE11⟩)
      replace hE0 := Ext.trans hE0 hE11
      refine Seg.step rfl rfl (Yd.assign rfl) ?_
      refine Seg.nil ?_
      refine At.then_ ?_
      refine Cd.seq ?_
      refine Cd.seq ?_
      refine Cd.region ?_
      refine Seg.step rfl rfl (Yd.move rfl) ?_
      refine Seg.step rfl rfl (Yd.eqlS rfl rfl) ?_
      refine Seg.step rfl rfl (Yd.move rfl) ?_
      refine Seg.gsplitp rfl rfl (fun h21 => ?_) (fun h21 => ?_)
      · contradiction
      · refine Seg.step rfl rfl (Yd.move rfl) ?_
        refine Seg.step rfl rfl (Yd.lenStr rfl rfl) ?_
        refine Seg.step rfl rfl (Yd.gtr rfl rfl) ?_
        refine Seg.step rfl rfl (Yd.pickF rfl rfl) ?_
        refine Seg.nil ?_
        refine At.then_ ?_
        refine Cd.condk rfl (fun h29 => ?_) (fun h29 => ?_)
        · refine Cd.seq ?_
          refine Cd.region ?_
          refine Seg.step rfl rfl (Yd.assign rfl) ?_
          refine Seg.nil ?_
          refine At.then_ ?_
          refine Cd.ret ?_
          refine At.then_ret ?_
          exact At.ret Try.results31 (.tmp rfl .nil) ⟨⟨nil_at _, AbC.nil _⟩, by assumption⟩
        · exfalso; omega
    · have hne : ¬ (trimCR l = [] ∨ 1000 < (trimCR l).length) := by rintro (h | h); exact h1 h; exact h2 h
      cases any with
      | true =>
        have hF : lineF true l = fieldsB (cutB 35 (trimCR l)).1 := by unfold lineF; rw [if_neg hne, if_pos rfl]
        rw [hF]
        refine Cd.seq ?_
        refine Cd.region ?_
        refine Seg.step rfl rfl (Yd.assign rfl) ?_
        refine Seg.nil ?_
        refine At.then_ ?_
        refine Cd.seq ?_
        refine Cd.region ?_
        refine Seg.step rfl rfl (Yd.move rfl) ?_
        (refine Seg.call rfl rfl (own_of rfl) rfl (trim_any l _ hl) ?_; rintro _ w11 ⟨rfl, hE11⟩)
        replace hE0 := Ext.trans hE0 hE11
        refine Seg.step rfl rfl (Yd.assign rfl) ?_
        refine Seg.nil ?_
        refine At.then_ ?_
        refine Cd.seq ?_
        refine Cd.seq ?_
        refine Cd.region ?_
        refine Seg.step rfl rfl (Yd.move rfl) ?_
        refine Seg.step rfl rfl (Yd.eqlS rfl rfl) ?_
        refine Seg.step rfl rfl (Yd.move rfl) ?_
        refine Seg.gsplitp rfl rfl (fun h21 => ?_) (fun h21 => ?_)
        · contradiction
        · refine Seg.step rfl rfl (Yd.move rfl) ?_
          refine Seg.step rfl rfl (Yd.lenStr rfl rfl) ?_
          refine Seg.step rfl rfl (Yd.gtr rfl rfl) ?_
          refine Seg.step rfl rfl (Yd.pickF rfl rfl) ?_
          refine Seg.nil ?_
          refine At.then_ ?_
          refine Cd.condk rfl (fun h29 => ?_) (fun h29 => ?_)
          · exfalso; omega
          · refine Cd.skip ?_
            refine At.then_ ?_
            refine Cd.seq ?_
            refine Cd.seq ?_
            refine Cd.region ?_
            refine Seg.step rfl rfl (Yd.move rfl) ?_
            refine Seg.nil ?_
            refine At.then_ ?_
            refine Cd.condT rfl ?_
            refine Cd.region ?_
            refine Seg.step rfl rfl (Yd.move rfl) ?_
            (refine Seg.call rfl rfl (own_of rfl) rfl (cut_any (trimCR l) 35 _ (by omega)) ?_; rintro _ w42 ⟨rfl, hE42⟩)
            replace hE11 := Ext.trans hE11 hE42
            replace hE0 := Ext.trans hE0 hE42
            refine Seg.step rfl rfl (Yd.move rfl) ?_
            refine Seg.step rfl rfl (Yd.extract rfl rfl) ?_
            refine Seg.step rfl rfl (Yd.extract rfl rfl) ?_
            refine Seg.step rfl rfl (Yd.extract rfl rfl) ?_
            refine Seg.step rfl rfl (Yd.assign rfl) ?_
            refine Seg.nil ?_
            refine At.then_ ?_
            refine Cd.seq ?_
            refine Cd.region ?_
            refine Seg.step rfl rfl (Yd.move rfl) ?_
            (refine Seg.call rfl rfl (own_of rfl) rfl (fields_any (cutB 35 (trimCR l)).1 _ (by omega)) ?_; rintro _ w53 ⟨hN53, hE53⟩; have hNX := And.intro hN53.1 (hN53.2.down (Below.size hE0)))
            replace hE42 := Ext.trans hE42 hE53
            replace hE11 := Ext.trans hE11 hE53
            replace hE0 := Ext.trans hE0 hE53
            refine Seg.step rfl rfl (Yd.assign rfl) ?_
            refine Seg.nil ?_
            refine At.then_ ?_
            refine Cd.ret ?_
            exact At.ret Try.results31 (.tmp rfl .nil) ⟨hNX, by assumption⟩
      | false =>
        have hlen : 0 < (trimCR l).length := List.length_pos_iff.2 h1
        by_cases h3 : (trimCR l).getD 0 0 = 35 ∨ (trimCR l).getD 0 0 = 59
        · have hF : lineF false l = [] := by unfold lineF; rw [if_neg hne, if_neg (by simp), if_pos h3]
          rw [hF]
          have h4 : (((trimCR l).getD 0 0).toNat : Int) = 35 ∨ (((trimCR l).getD 0 0).toNat : Int) = 59 := by
            rcases h3 with h | h <;> rw [h]
            · exact .inl rfl
            · exact .inr rfl
          refine Cd.seq ?_
          refine Cd.region ?_
          refine Seg.step rfl rfl (Yd.assign rfl) ?_
          refine Seg.nil ?_
          refine At.then_ ?_
          refine Cd.seq ?_
          refine Cd.region ?_
          refine Seg.step rfl rfl (Yd.move rfl) ?_
          (refine Seg.call rfl rfl (own_of rfl) rfl (trim_any l _ hl) ?_; rintro _ w13 ⟨rfl, hE13⟩)
          replace hE0 := Ext.trans hE0 hE13
          refine Seg.step rfl rfl (Yd.assign rfl) ?_
          refine Seg.nil ?_
          refine At.then_ ?_
          refine Cd.seq ?_
          refine Cd.seq ?_
          refine Cd.region ?_
          refine Seg.step rfl rfl (Yd.move rfl) ?_
          refine Seg.step rfl rfl (Yd.eqlS rfl rfl) ?_
          refine Seg.step rfl rfl (Yd.move rfl) ?_
          refine Seg.gsplitp rfl rfl (fun h23 => ?_) (fun h23 => ?_)
          · contradiction
          · refine Seg.step rfl rfl (Yd.move rfl) ?_
            refine Seg.step rfl rfl (Yd.lenStr rfl rfl) ?_
            refine Seg.step rfl rfl (Yd.gtr rfl rfl) ?_
            refine Seg.step rfl rfl (Yd.pickF rfl rfl) ?_
            refine Seg.nil ?_
            refine At.then_ ?_
            refine Cd.condk rfl (fun h31 => ?_) (fun h31 => ?_)
            · exfalso; omega
            · refine Cd.skip ?_
              refine At.then_ ?_
              refine Cd.seq ?_
              refine Cd.seq ?_
              refine Cd.region ?_
              refine Seg.step rfl rfl (Yd.move rfl) ?_
              refine Seg.nil ?_
              refine At.then_ ?_
              refine Cd.condF rfl ?_
              refine Cd.seq ?_
              refine Cd.region ?_
              refine Seg.step rfl rfl (Yd.move rfl) ?_
              (refine Seg.step rfl rfl (Yd.indexStr (k := 0) rfl rfl rfl rfl hlen) ?_)
              refine Seg.step rfl rfl (Yd.eql rfl rfl) ?_
              refine Seg.step rfl rfl (Yd.move rfl) ?_
              refine Seg.gsplitp rfl rfl (fun h48 => ?_) (fun h48 => ?_)
              · refine Seg.skip rfl rfl ?_
                refine Seg.skip rfl rfl ?_
                refine Seg.skip rfl rfl ?_
                refine Seg.step rfl rfl (Yd.pickT rfl rfl) ?_
                refine Seg.nil ?_
                refine At.then_ ?_
                refine Cd.condT rfl ?_
                refine Cd.seq ?_
                refine Cd.region ?_
                refine Seg.step rfl rfl (Yd.assign rfl) ?_
                refine Seg.nil ?_
                refine At.then_ ?_
                refine Cd.ret ?_
                refine At.then_ret ?_
                exact At.ret Try.results31 (.tmp rfl .nil) ⟨⟨nil_at _, AbC.nil _⟩, by assumption⟩
              · refine Seg.step rfl rfl (Yd.move rfl) ?_
                (refine Seg.step rfl rfl (Yd.indexStr (k := 0) rfl rfl rfl rfl hlen) ?_)
                refine Seg.step rfl rfl (Yd.eql rfl rfl) ?_
                refine Seg.step rfl rfl (Yd.pickF rfl rfl) ?_
                refine Seg.nil ?_
                refine At.then_ ?_
                refine Cd.condk rfl (fun h72 => ?_) (fun h72 => ?_)
                · refine Cd.seq ?_
                  refine Cd.region ?_
                  refine Seg.step rfl rfl (Yd.assign rfl) ?_
                  refine Seg.nil ?_
                  refine At.then_ ?_
                  refine Cd.ret ?_
                  refine At.then_ret ?_
                  exact At.ret Try.results31 (.tmp rfl .nil) ⟨⟨nil_at _, AbC.nil _⟩, by assumption⟩
                · exfalso; omega
        · have hF : lineF false l = fieldsB (trimCR l) := by unfold lineF; rw [if_neg hne, if_neg (by simp), if_neg h3]
          rw [hF]
          have h4 : ¬ (((trimCR l).getD 0 0).toNat : Int) = 35 := fun h => h3 (.inl (u8_ne.1 (by rw [h]; rfl)))
          have h5 : ¬ (((trimCR l).getD 0 0).toNat : Int) = 59 := fun h => h3 (.inr (u8_ne.1 (by rw [h]; rfl)))
          refine Cd.seq ?_
          refine Cd.region ?_
          refine Seg.step rfl rfl (Yd.assign rfl) ?_
          refine Seg.nil ?_
          refine At.then_ ?_
          refine Cd.seq ?_
          refine Cd.region ?_
          refine Seg.step rfl rfl (Yd.move rfl) ?_
          (refine Seg.call rfl rfl (own_of rfl) rfl (trim_any l _ hl) ?_; rintro _ w14 ⟨rfl, hE14⟩)
          replace hE0 := Ext.trans hE0 hE14
          refine Seg.step rfl rfl (Yd.assign rfl) ?_
          refine Seg.nil ?_
          refine At.then_ ?_
          refine Cd.seq ?_
          refine Cd.seq ?_
          refine Cd.region ?_
          refine Seg.step rfl rfl (Yd.move rfl) ?_
          refine Seg.step rfl rfl (Yd.eqlS rfl rfl) ?_
          refine Seg.step rfl rfl (Yd.move rfl) ?_
          refine Seg.gsplitp rfl rfl (fun h24 => ?_) (fun h24 => ?_)
          · contradiction
          · refine Seg.step rfl rfl (Yd.move rfl) ?_
            refine Seg.step rfl rfl (Yd.lenStr rfl rfl) ?_
            refine Seg.step rfl rfl (Yd.gtr rfl rfl) ?_
            refine Seg.step rfl rfl (Yd.pickF rfl rfl) ?_
            refine Seg.nil ?_
            refine At.then_ ?_
            refine Cd.condk rfl (fun h32 => ?_) (fun h32 => ?_)
            · exfalso; omega
            · refine Cd.skip ?_
              refine At.then_ ?_
              refine Cd.seq ?_
              refine Cd.seq ?_
              refine Cd.region ?_
              refine Seg.step rfl rfl (Yd.move rfl) ?_
              refine Seg.nil ?_
              refine At.then_ ?_
              refine Cd.condF rfl ?_
              refine Cd.seq ?_
              refine Cd.region ?_
              refine Seg.step rfl rfl (Yd.move rfl) ?_
              (refine Seg.step rfl rfl (Yd.indexStr (k := 0) rfl rfl rfl rfl hlen) ?_)
              refine Seg.step rfl rfl (Yd.eql rfl rfl) ?_
              refine Seg.step rfl rfl (Yd.move rfl) ?_
              refine Seg.gsplitp rfl rfl (fun h49 => ?_) (fun h49 => ?_)
              · exfalso; omega
              · refine Seg.step rfl rfl (Yd.move rfl) ?_
                (refine Seg.step rfl rfl (Yd.indexStr (k := 0) rfl rfl rfl rfl hlen) ?_)
                refine Seg.step rfl rfl (Yd.eql rfl rfl) ?_
                refine Seg.step rfl rfl (Yd.pickF rfl rfl) ?_
                refine Seg.nil ?_
                refine At.then_ ?_
                refine Cd.condk rfl (fun h57 => ?_) (fun h57 => ?_)
                · exfalso; omega
                · refine Cd.skip ?_
                  refine At.then_ ?_
                  refine Cd.seq ?_
                  refine Cd.region ?_
                  refine Seg.step rfl rfl (Yd.move rfl) ?_
                  (refine Seg.call rfl rfl (own_of rfl) rfl (fields_any (trimCR l) _ (by omega)) ?_; rintro _ w64 ⟨hN64, hE64⟩; have hNX := And.intro hN64.1 (hN64.2.down (Below.size hE0)))
                  replace hE14 := Ext.trans hE14 hE64
                  replace hE0 := Ext.trans hE0 hE64
                  refine Seg.step rfl rfl (Yd.assign rfl) ?_
                  refine Seg.nil ?_
                  refine At.then_ ?_
                  refine Cd.ret ?_
                  exact At.ret Try.results31 (.tmp rfl .nil) ⟨hNX, by assumption⟩
end Go.Proofs.Ytbmgigbedmgfpaa
