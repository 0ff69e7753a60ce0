/- The reference's fields: the walks. -/
import Derived.Test.YtbmgigbedmgfpaaRfa
namespace Go.Proofs.Ytbmgigbedmgfpaa
open Go Go.RowKit
theorem sub_one {l : List UInt8} {i : Nat} (h : i < l.length) : (l.take (i + 1)).drop i = [l.getD i 0] := by
  rw [take_get h, List.drop_left' (by rw [List.length_take]; omega)]
theorem fld_word {l wd : List UInt8} {i : Nat} (h : i < l.length) (hb : ¬ isBl (l.getD i 0)) : fldA wd (l.drop i) = fldA (wd ++ [l.getD i 0]) (l.drop (i + 1)) := by
  rw [drop_at h, fldA, if_neg hb]
theorem fld_cut {l wd : List UInt8} {i : Nat} (h : i < l.length) (hb : isBl (l.getD i 0)) (hw : ¬ wd = []) : fldA wd (l.drop i) = wd :: fldA [] (l.drop (i + 1)) := by
  rw [drop_at h, fldA, if_pos hb, if_neg hw]
theorem rfields_any (l : List UInt8) (w : World) (hl : l.length ≤ 1000000) : Ret Try.prog 41 #[.string ⟨l.toArray⟩] w fun v w' => (NameAt w' v (fieldsB l) ∧ AbC w.heap.size v) ∧ Ext w w' := by
  have hE0 := Ext.refl w
  refine Ret.body Try.func41 rfl Try.ntmps41 rfl ?_
  refine Cd.seq ?_
  refine Cd.region ?_
  refine Seg.step rfl rfl (Yd.assign rfl) ?_
  refine Seg.nil ?_
  refine At.then_ ?_
  refine Cd.seq ?_
  refine Cd.region ?_
  refine Seg.step rfl rfl (Yd.assign rfl) ?_
  refine Seg.nil ?_
  refine At.then_ ?_
  refine Cd.seq ?_
  refine Cd.region ?_
  refine Seg.step rfl rfl (Yd.assign rfl) ?_
  refine Seg.nil ?_
  refine At.then_ ?_
  refine Cd.seq ?_
  refine Cd.seq ?_
  refine Cd.region ?_
  refine Seg.step rfl rfl (Yd.assign rfl) ?_
  refine Seg.nil ?_
  refine At.then_ ?_
  refine Cd.block ?_
  refine Cd.loop (σ := List (List UInt8) × Value × List UInt8 × Nat) (fun s => [(0, .string ⟨l.toArray⟩), (3, s.2.1), (4, .string ⟨s.2.2.1.toArray⟩), (5, .int .i64 (s.2.2.2 : Int))])
    (fun s w' => (s.2.2.2 ≤ l.length ∧ s.1.length ≤ s.2.2.2 ∧ s.2.2.1.length ≤ s.2.2.2 ∧ s.1 ++ fldA s.2.2.1 (l.drop s.2.2.2) = fieldsB l) ∧ w'.ownsRow w.heap.size 9 1 s.2.1 s.1.length (strV s.1) ∧ Ext w w') (fun s => l.length - s.2.2.2) ([], .slice none 0 0, [], 0) (.cons rfl (.cons rfl (.cons rfl (.cons rfl (.nil _)))))
    ⟨⟨Nat.zero_le _, Nat.zero_le _, Nat.zero_le _, by simp [fieldsB]⟩, World.ownsRow_nil _ _ _ _, hE0⟩ ?_
  clear hE0
  rintro ⟨ds, v, wd, i⟩ w0 ⟨⟨hi, hd, hw, hf⟩, hO, hE0⟩
  simp only at hi hd hw hf hO ⊢
  by_cases hlt : i < l.length
  · by_cases hb : isBl (l.getD i 0)
    · by_cases hw0 : wd = []
      · subst hw0
        have hs : i + 1 ≤ l.length ∧ ds.length ≤ i + 1 ∧ ([] : List UInt8).length ≤ i + 1 ∧ ds ++ fldA [] (l.drop (i + 1)) = fieldsB l := ⟨hlt, by omega, Nat.zero_le _, by rw [← hf, fld_skip hlt hb]⟩
        have hb' : ((l.getD i 0).toNat : Int) = 32 ∨ ((l.getD i 0).toNat : Int) = 9 := by
          rcases hb with h | h <;> rw [h]
          · exact .inl rfl
          · exact .inr rfl
        rcases hb' with hb' | hb'
        · refine Cd.seq ?_
          refine Cd.seq ?_
          refine Cd.region ?_
          refine Seg.step rfl rfl (Yd.move rfl) ?_
          refine Seg.step rfl rfl (Yd.move rfl) ?_
          refine Seg.step rfl rfl (Yd.lenStr rfl rfl) ?_
          refine Seg.step rfl rfl (Yd.lss rfl rfl) ?_
          refine Seg.nil ?_
          refine At.then_ ?_
          refine Cd.condk rfl (fun h10 => ?_) (fun h10 => ?_)
          · refine Cd.skip ?_
            refine At.then_ ?_
            refine Cd.seq ?_
            refine Cd.block ?_
            refine Cd.seq ?_
            refine Cd.seq ?_
            refine Cd.region ?_
            refine Seg.step rfl rfl (Yd.move rfl) ?_
            refine Seg.step rfl rfl (Yd.move rfl) ?_
            refine Seg.step rfl rfl (Yd.indexStr rfl rfl rfl (NatOf.cast _) (by omega)) ?_
            refine Seg.step rfl rfl (Yd.neq rfl rfl) ?_
            refine Seg.step rfl rfl (Yd.move rfl) ?_
            refine Seg.gsplitp rfl rfl (fun h24 => ?_) (fun h24 => ?_)
            · exfalso; omega
            · refine Seg.skip rfl rfl ?_
              refine Seg.skip rfl rfl ?_
              refine Seg.skip rfl rfl ?_
              refine Seg.skip rfl rfl ?_
              refine Seg.step rfl rfl (Yd.pickF rfl rfl) ?_
              refine Seg.nil ?_
              refine At.then_ ?_
              refine Cd.condF rfl ?_
              refine Cd.skip ?_
              refine At.then_ ?_
              refine Cd.seq ?_
              refine Cd.seq ?_
              refine Cd.region ?_
              refine Seg.step rfl rfl (Yd.move rfl) ?_
              refine Seg.step rfl rfl (Yd.neqS rfl rfl) ?_
              refine Seg.nil ?_
              refine At.then_ ?_
              refine Cd.condF rfl ?_
              refine Cd.skip ?_
              refine At.then_ ?_
              refine Cd.region ?_
              refine Seg.step rfl rfl (Yd.assign rfl) ?_
              refine Seg.nil ?_
              refine At.blk ?_
              refine At.then_ ?_
              refine Cd.region ?_
              refine Seg.step rfl rfl (Yd.move rfl) ?_
              refine Seg.step rfl rfl (Yd.addI rfl rfl (by omega)) ?_
              refine Seg.step rfl rfl (Yd.assign rfl) ?_
              refine Seg.nil ?_
              exact At.round (ds, v, [], i + 1) (.cons rfl (.cons rfl (.cons rfl (.cons rfl (.nil _))))) ⟨hs, hO, hE0⟩ (Nat.sub_lt_sub_left hlt (Nat.lt_succ_self i))
          · exfalso; omega
        · refine Cd.seq ?_
          refine Cd.seq ?_
          refine Cd.region ?_
          refine Seg.step rfl rfl (Yd.move rfl) ?_
          refine Seg.step rfl rfl (Yd.move rfl) ?_
          refine Seg.step rfl rfl (Yd.lenStr rfl rfl) ?_
          refine Seg.step rfl rfl (Yd.lss rfl rfl) ?_
          refine Seg.nil ?_
          refine At.then_ ?_
          refine Cd.condk rfl (fun h10 => ?_) (fun h10 => ?_)
          · refine Cd.skip ?_
            refine At.then_ ?_
            refine Cd.seq ?_
            refine Cd.block ?_
            refine Cd.seq ?_
            refine Cd.seq ?_
            refine Cd.region ?_
            refine Seg.step rfl rfl (Yd.move rfl) ?_
            refine Seg.step rfl rfl (Yd.move rfl) ?_
            refine Seg.step rfl rfl (Yd.indexStr rfl rfl rfl (NatOf.cast _) (by omega)) ?_
            refine Seg.step rfl rfl (Yd.neq rfl rfl) ?_
            refine Seg.step rfl rfl (Yd.move rfl) ?_
            refine Seg.gsplitp rfl rfl (fun h24 => ?_) (fun h24 => ?_)
            · refine Seg.step rfl rfl (Yd.move rfl) ?_
              refine Seg.step rfl rfl (Yd.move rfl) ?_
              refine Seg.step rfl rfl (Yd.indexStr rfl rfl rfl (NatOf.cast _) (by omega)) ?_
              refine Seg.step rfl rfl (Yd.neq rfl rfl) ?_
              refine Seg.step rfl rfl (Yd.pickT rfl rfl) ?_
              refine Seg.nil ?_
              refine At.then_ ?_
              refine Cd.condk rfl (fun h33 => ?_) (fun h33 => ?_)
              · exfalso; omega
              · refine Cd.skip ?_
                refine At.then_ ?_
                refine Cd.seq ?_
                refine Cd.seq ?_
                refine Cd.region ?_
                refine Seg.step rfl rfl (Yd.move rfl) ?_
                refine Seg.step rfl rfl (Yd.neqS rfl rfl) ?_
                refine Seg.nil ?_
                refine At.then_ ?_
                refine Cd.condF rfl ?_
                refine Cd.skip ?_
                refine At.then_ ?_
                refine Cd.region ?_
                refine Seg.step rfl rfl (Yd.assign rfl) ?_
                refine Seg.nil ?_
                refine At.blk ?_
                refine At.then_ ?_
                refine Cd.region ?_
                refine Seg.step rfl rfl (Yd.move rfl) ?_
                refine Seg.step rfl rfl (Yd.addI rfl rfl (by omega)) ?_
                refine Seg.step rfl rfl (Yd.assign rfl) ?_
                refine Seg.nil ?_
                exact At.round (ds, v, [], i + 1) (.cons rfl (.cons rfl (.cons rfl (.cons rfl (.nil _))))) ⟨hs, hO, hE0⟩ (Nat.sub_lt_sub_left hlt (Nat.lt_succ_self i))
            · exfalso; omega
          · exfalso; omega
      · have hs : i + 1 ≤ l.length ∧ (ds ++ [wd]).length ≤ i + 1 ∧ ([] : List UInt8).length ≤ i + 1 ∧ (ds ++ [wd]) ++ fldA [] (l.drop (i + 1)) = fieldsB l := ⟨hlt, by simp; omega, Nat.zero_le _, by rw [← hf, fld_cut hlt hb hw0]; simp⟩
        have hb' : ((l.getD i 0).toNat : Int) = 32 ∨ ((l.getD i 0).toNat : Int) = 9 := by
          rcases hb with h | h <;> rw [h]
          · exact .inl rfl
          · exact .inr rfl
        rcases hb' with hb' | hb'
        · refine Cd.seq ?_
          refine Cd.seq ?_
          refine Cd.region ?_
          refine Seg.step rfl rfl (Yd.move rfl) ?_
          refine Seg.step rfl rfl (Yd.move rfl) ?_
          refine Seg.step rfl rfl (Yd.lenStr rfl rfl) ?_
          refine Seg.step rfl rfl (Yd.lss rfl rfl) ?_
          refine Seg.nil ?_
          refine At.then_ ?_
          refine Cd.condk rfl (fun h10 => ?_) (fun h10 => ?_)
          · refine Cd.skip ?_
            refine At.then_ ?_
            refine Cd.seq ?_
            refine Cd.block ?_
            refine Cd.seq ?_
            refine Cd.seq ?_
            refine Cd.region ?_
            refine Seg.step rfl rfl (Yd.move rfl) ?_
            refine Seg.step rfl rfl (Yd.move rfl) ?_
            refine Seg.step rfl rfl (Yd.indexStr rfl rfl rfl (NatOf.cast _) (by omega)) ?_
            refine Seg.step rfl rfl (Yd.neq rfl rfl) ?_
            refine Seg.step rfl rfl (Yd.move rfl) ?_
            refine Seg.gsplitp rfl rfl (fun h24 => ?_) (fun h24 => ?_)
            · exfalso; omega
            · refine Seg.skip rfl rfl ?_
              refine Seg.skip rfl rfl ?_
              refine Seg.skip rfl rfl ?_
              refine Seg.skip rfl rfl ?_
              refine Seg.step rfl rfl (Yd.pickF rfl rfl) ?_
              refine Seg.nil ?_
              refine At.then_ ?_
              refine Cd.condF rfl ?_
              refine Cd.skip ?_
              refine At.then_ ?_
              refine Cd.seq ?_
              refine Cd.seq ?_
              refine Cd.region ?_
              refine Seg.step rfl rfl (Yd.move rfl) ?_
              refine Seg.step rfl rfl (Yd.neqS rfl rfl) ?_
              refine Seg.nil ?_
              refine At.then_ ?_
              refine Cd.condk rfl (fun h43 => ?_) (fun h43 => ?_)
              · refine Cd.region ?_
                refine Seg.step rfl rfl (Yd.move rfl) ?_
                refine Seg.step rfl rfl (Yd.move rfl) ?_
                refine Seg.buildSliceV rfl rfl rfl rfl rfl rfl rfl rfl rfl rfl (fun w48 b48 hE48 hB48 hb48 hO48 => ?_)
                have hlt48_0 := Nat.le_trans hE0.size hb48
                replace hO := own_ext hO hE48
                replace hE0 := Ext.trans hE0 hE48
                (refine Seg.append (news := strV [wd]) (m' := 1) rfl rfl rfl rfl rfl rfl rfl rfl rfl hO (own_sl (by assumption)) (strV_one _) (Below.size hE0) (by omega) rfl (fun v49 w49 hN hG49 _ => ?_); replace hE0 := hE0.own hO (Nat.le_refl _) hG49)
                refine Seg.step rfl rfl (Yd.assign rfl) ?_
                refine Seg.nil ?_
                refine At.then_ ?_
                refine Cd.region ?_
                refine Seg.step rfl rfl (Yd.assign rfl) ?_
                refine Seg.nil ?_
                refine At.blk ?_
                refine At.then_ ?_
                refine Cd.region ?_
                refine Seg.step rfl rfl (Yd.move rfl) ?_
                refine Seg.step rfl rfl (Yd.addI rfl rfl (by omega)) ?_
                refine Seg.step rfl rfl (Yd.assign rfl) ?_
                refine Seg.nil ?_
                exact At.round (ds ++ [wd], _, [], i + 1) (.cons rfl (.cons rfl (.cons rfl (.cons rfl (.nil _))))) ⟨hs, strV_snoc hN, hE0⟩ (Nat.sub_lt_sub_left hlt (Nat.lt_succ_self i))
              · contradiction
          · exfalso; omega
        · refine Cd.seq ?_
          refine Cd.seq ?_
          refine Cd.region ?_
          refine Seg.step rfl rfl (Yd.move rfl) ?_
          refine Seg.step rfl rfl (Yd.move rfl) ?_
          refine Seg.step rfl rfl (Yd.lenStr rfl rfl) ?_
          refine Seg.step rfl rfl (Yd.lss rfl rfl) ?_
          refine Seg.nil ?_
          refine At.then_ ?_
          refine Cd.condk rfl (fun h10 => ?_) (fun h10 => ?_)
          · refine Cd.skip ?_
            refine At.then_ ?_
            refine Cd.seq ?_
            refine Cd.block ?_
            refine Cd.seq ?_
            refine Cd.seq ?_
            refine Cd.region ?_
            refine Seg.step rfl rfl (Yd.move rfl) ?_
            refine Seg.step rfl rfl (Yd.move rfl) ?_
            refine Seg.step rfl rfl (Yd.indexStr rfl rfl rfl (NatOf.cast _) (by omega)) ?_
            refine Seg.step rfl rfl (Yd.neq rfl rfl) ?_
            refine Seg.step rfl rfl (Yd.move rfl) ?_
            refine Seg.gsplitp rfl rfl (fun h24 => ?_) (fun h24 => ?_)
            · refine Seg.step rfl rfl (Yd.move rfl) ?_
              refine Seg.step rfl rfl (Yd.move rfl) ?_
              refine Seg.step rfl rfl (Yd.indexStr rfl rfl rfl (NatOf.cast _) (by omega)) ?_
              refine Seg.step rfl rfl (Yd.neq rfl rfl) ?_
              refine Seg.step rfl rfl (Yd.pickT rfl rfl) ?_
              refine Seg.nil ?_
              refine At.then_ ?_
              refine Cd.condk rfl (fun h33 => ?_) (fun h33 => ?_)
              · exfalso; omega
              · refine Cd.skip ?_
                refine At.then_ ?_
                refine Cd.seq ?_
                refine Cd.seq ?_
                refine Cd.region ?_
                refine Seg.step rfl rfl (Yd.move rfl) ?_
                refine Seg.step rfl rfl (Yd.neqS rfl rfl) ?_
                refine Seg.nil ?_
                refine At.then_ ?_
                refine Cd.condk rfl (fun h44 => ?_) (fun h44 => ?_)
                · refine Cd.region ?_
                  refine Seg.step rfl rfl (Yd.move rfl) ?_
                  refine Seg.step rfl rfl (Yd.move rfl) ?_
                  refine Seg.buildSliceV rfl rfl rfl rfl rfl rfl rfl rfl rfl rfl (fun w49 b49 hE49 hB49 hb49 hO49 => ?_)
                  have hlt49_0 := Nat.le_trans hE0.size hb49
                  replace hO := own_ext hO hE49
                  replace hE0 := Ext.trans hE0 hE49
                  (refine Seg.append (news := strV [wd]) (m' := 1) rfl rfl rfl rfl rfl rfl rfl rfl rfl hO (own_sl (by assumption)) (strV_one _) (Below.size hE0) (by omega) rfl (fun v50 w50 hN hG50 _ => ?_); replace hE0 := hE0.own hO (Nat.le_refl _) hG50)
                  refine Seg.step rfl rfl (Yd.assign rfl) ?_
                  refine Seg.nil ?_
                  refine At.then_ ?_
                  refine Cd.region ?_
                  refine Seg.step rfl rfl (Yd.assign rfl) ?_
                  refine Seg.nil ?_
                  refine At.blk ?_
                  refine At.then_ ?_
                  refine Cd.region ?_
                  refine Seg.step rfl rfl (Yd.move rfl) ?_
                  refine Seg.step rfl rfl (Yd.addI rfl rfl (by omega)) ?_
                  refine Seg.step rfl rfl (Yd.assign rfl) ?_
                  refine Seg.nil ?_
                  exact At.round (ds ++ [wd], _, [], i + 1) (.cons rfl (.cons rfl (.cons rfl (.cons rfl (.nil _))))) ⟨hs, strV_snoc hN, hE0⟩ (Nat.sub_lt_sub_left hlt (Nat.lt_succ_self i))
                · contradiction
            · exfalso; omega
          · exfalso; omega
    · have hs : i + 1 ≤ l.length ∧ ds.length ≤ i + 1 ∧ (wd ++ [l.getD i 0]).length ≤ i + 1 ∧ ds ++ fldA (wd ++ [l.getD i 0]) (l.drop (i + 1)) = fieldsB l := ⟨hlt, by omega, by simp; omega, by rw [← hf, fld_word hlt hb]⟩
      have h32 : ¬ ((l.getD i 0).toNat : Int) = 32 := fun h => hb (.inl (u8_ne.1 (by rw [h]; rfl)))
      have h9 : ¬ ((l.getD i 0).toNat : Int) = 9 := fun h => hb (.inr (u8_ne.1 (by rw [h]; rfl)))
      have hlen : wd.length + [l.getD i 0].length ≤ 9223372036854775807 := by simp; omega
      have hsl : Value.string ⟨((l.take (i + 1)).drop i).toArray⟩ = .string ⟨[l.getD i 0].toArray⟩ := by rw [sub_one hlt]
      refine Cd.seq ?_
      refine Cd.seq ?_
      refine Cd.region ?_
      refine Seg.step rfl rfl (Yd.move rfl) ?_
      refine Seg.step rfl rfl (Yd.move rfl) ?_
      refine Seg.step rfl rfl (Yd.lenStr rfl rfl) ?_
      refine Seg.step rfl rfl (Yd.lss rfl rfl) ?_
      refine Seg.nil ?_
      refine At.then_ ?_
      refine Cd.condk rfl (fun h42 => ?_) (fun h42 => ?_)
      · refine Cd.skip ?_
        refine At.then_ ?_
        refine Cd.seq ?_
        refine Cd.block ?_
        refine Cd.seq ?_
        refine Cd.seq ?_
        refine Cd.region ?_
        refine Seg.step rfl rfl (Yd.move rfl) ?_
        refine Seg.step rfl rfl (Yd.move rfl) ?_
        refine Seg.step rfl rfl (Yd.indexStr rfl rfl rfl (NatOf.cast _) (by omega)) ?_
        refine Seg.step rfl rfl (Yd.neq rfl rfl) ?_
        refine Seg.step rfl rfl (Yd.move rfl) ?_
        refine Seg.gsplitp rfl rfl (fun h56 => ?_) (fun h56 => ?_)
        · refine Seg.step rfl rfl (Yd.move rfl) ?_
          refine Seg.step rfl rfl (Yd.move rfl) ?_
          refine Seg.step rfl rfl (Yd.indexStr rfl rfl rfl (NatOf.cast _) (by omega)) ?_
          refine Seg.step rfl rfl (Yd.neq rfl rfl) ?_
          refine Seg.step rfl rfl (Yd.pickT rfl rfl) ?_
          refine Seg.nil ?_
          refine At.then_ ?_
          refine Cd.condk rfl (fun h65 => ?_) (fun h65 => ?_)
          · refine Cd.seq ?_
            refine Cd.region ?_
            refine Seg.step rfl rfl (Yd.move rfl) ?_
            refine Seg.step rfl rfl (Yd.move rfl) ?_
            refine Seg.step rfl rfl (Yd.move rfl) ?_
            refine Seg.step rfl rfl (Yd.move rfl) ?_
            refine Seg.step rfl rfl (Yd.addI rfl rfl (by omega)) ?_
            (refine Seg.step rfl rfl (Yd.slStr rfl rfl rfl rfl (NatOf.cast i) (NatOf.add (NatOf.cast i) (NatOf.cast 1)) (Nat.le_succ i) hlt) ?_; rw [hsl])
            (refine Seg.step rfl rfl (Yd.addS (l := wd) (m := [l.getD i 0]) rfl rfl hlen) ?_)
            refine Seg.step rfl rfl (Yd.assign rfl) ?_
            refine Seg.nil ?_
            refine At.then_ ?_
            refine Cd.exit ?_
            refine At.then_exit ?_
            refine At.blk_same ?_
            refine At.then_ ?_
            refine Cd.region ?_
            refine Seg.step rfl rfl (Yd.move rfl) ?_
            refine Seg.step rfl rfl (Yd.addI rfl rfl (by omega)) ?_
            refine Seg.step rfl rfl (Yd.assign rfl) ?_
            refine Seg.nil ?_
            exact At.round (ds, v, wd ++ [l.getD i 0], i + 1) (.cons rfl (.cons rfl (.cons rfl (.cons rfl (.nil _))))) ⟨hs, hO, hE0⟩ (Nat.sub_lt_sub_left hlt (Nat.lt_succ_self i))
          · exfalso; omega
        · exfalso; omega
      · exfalso; omega
  · have hil : i = l.length := by omega
    rw [hil, List.drop_length] at hf
    by_cases hw0 : wd = []
    · subst hw0
      have hfd : ds = fieldsB l := by rw [← hf]; simp [fldA]
      refine Cd.seq ?_
      refine Cd.seq ?_
      refine Cd.region ?_
      refine Seg.step rfl rfl (Yd.move rfl) ?_
      refine Seg.step rfl rfl (Yd.move rfl) ?_
      refine Seg.step rfl rfl (Yd.lenStr rfl rfl) ?_
      refine Seg.step rfl rfl (Yd.lss rfl rfl) ?_
      refine Seg.nil ?_
      refine At.then_ ?_
      refine Cd.condk rfl (fun h10 => ?_) (fun h10 => ?_)
      · exfalso; omega
      · refine Cd.exit ?_
        refine At.then_exit ?_
        refine At.then_exit ?_
        refine At.blk_same ?_
        refine At.then_ ?_
        refine Cd.seq ?_
        refine Cd.seq ?_
        refine Cd.region ?_
        refine Seg.step rfl rfl (Yd.move rfl) ?_
        refine Seg.step rfl rfl (Yd.neqS rfl rfl) ?_
        refine Seg.nil ?_
        refine At.then_ ?_
        refine Cd.condF rfl ?_
        refine Cd.skip ?_
        refine At.then_ ?_
        refine Cd.seq ?_
        refine Cd.region ?_
        refine Seg.step rfl rfl (Yd.move rfl) ?_
        refine Seg.step rfl rfl (Yd.assign rfl) ?_
        refine Seg.nil ?_
        refine At.then_ ?_
        refine Cd.ret ?_
        exact At.ret Try.results41 (.tmp rfl .nil) ⟨⟨by rw [← hfd]; exact own_sl hO, own_abc hO⟩, hE0⟩
    · have hfd : ds ++ [wd] = fieldsB l := by rw [← hf]; simp [fldA, hw0]
      refine Cd.seq ?_
      refine Cd.seq ?_
      refine Cd.region ?_
      refine Seg.step rfl rfl (Yd.move rfl) ?_
      refine Seg.step rfl rfl (Yd.move rfl) ?_
      refine Seg.step rfl rfl (Yd.lenStr rfl rfl) ?_
      refine Seg.step rfl rfl (Yd.lss rfl rfl) ?_
      refine Seg.nil ?_
      refine At.then_ ?_
      refine Cd.condk rfl (fun h10 => ?_) (fun h10 => ?_)
      · exfalso; omega
      · refine Cd.exit ?_
        refine At.then_exit ?_
        refine At.then_exit ?_
        refine At.blk_same ?_
        refine At.then_ ?_
        refine Cd.seq ?_
        refine Cd.seq ?_
        refine Cd.region ?_
        refine Seg.step rfl rfl (Yd.move rfl) ?_
        refine Seg.step rfl rfl (Yd.neqS rfl rfl) ?_
        refine Seg.nil ?_
        refine At.then_ ?_
        refine Cd.condk rfl (fun h24 => ?_) (fun h24 => ?_)
        · refine Cd.region ?_
          refine Seg.step rfl rfl (Yd.move rfl) ?_
          refine Seg.step rfl rfl (Yd.move rfl) ?_
          refine Seg.buildSliceV rfl rfl rfl rfl rfl rfl rfl rfl rfl rfl (fun w29 b29 hE29 hB29 hb29 hO29 => ?_)
          have hlt29_0 := Nat.le_trans hE0.size hb29
          replace hO := own_ext hO hE29
          replace hE0 := Ext.trans hE0 hE29
          (refine Seg.append (news := strV [wd]) (m' := 1) rfl rfl rfl rfl rfl rfl rfl rfl rfl hO (own_sl (by assumption)) (strV_one _) (Below.size hE0) (by omega) rfl (fun v30 w30 hN hG30 _ => ?_); replace hE0 := hE0.own hO (Nat.le_refl _) hG30; have hN := strV_snoc hN)
          refine Seg.step rfl rfl (Yd.assign rfl) ?_
          refine Seg.nil ?_
          refine At.then_ ?_
          refine Cd.seq ?_
          refine Cd.region ?_
          refine Seg.step rfl rfl (Yd.move rfl) ?_
          refine Seg.step rfl rfl (Yd.assign rfl) ?_
          refine Seg.nil ?_
          refine At.then_ ?_
          refine Cd.ret ?_
          exact At.ret Try.results41 (.tmp rfl .nil) ⟨⟨by rw [← hfd]; exact own_sl hN, own_abc hN⟩, hE0⟩
        · contradiction
theorem rlineF_any (any : Bool) (l : List UInt8) (w : World) (hl : l.length ≤ 1000000) : Ret Try.prog 32 #[.string ⟨l.toArray⟩, .bool any] w fun v w' => (NameAt w' v (lineF any l) ∧ AbC w.heap.size v) ∧ Ext w w' := by
  have hE0 := Ext.refl w
  refine Ret.body Try.func32 rfl Try.ntmps32 rfl ?_
  have ht := trimCR_len l
  refine Cd.seq (Cd.region (Seg.step rfl rfl (Yd.assign rfl) (Seg.nil (At.then_ ?_))))
  refine Cd.cut (σ := Unit) (fun _ => [(0, .string ⟨(trimCR l).toArray⟩), (1, .bool any), (4, .slice none 0 0)]) (fun _ w' => Ext w w') ?_ (fun _ w0 hE0 => ?_)
  · by_cases hne : l = []
    · subst hne
      refine Cd.seq ?_
      refine Cd.region ?_
      refine Seg.step rfl rfl (Yd.move rfl) ?_
      refine Seg.step rfl rfl (Yd.lenStr rfl rfl) ?_
      refine Seg.step rfl rfl (Yd.gtr rfl rfl) ?_
      refine Seg.step rfl rfl (Yd.move rfl) ?_
      refine Seg.skip rfl rfl ?_
      refine Seg.skip rfl rfl ?_
      refine Seg.skip rfl rfl ?_
      refine Seg.skip rfl rfl ?_
      refine Seg.skip rfl rfl ?_
      refine Seg.skip rfl rfl ?_
      refine Seg.step rfl rfl (Yd.pickF rfl rfl) ?_
      refine Seg.nil ?_
      refine At.then_ ?_
      refine Cd.condF rfl ?_
      refine Cd.skip ?_
      exact At.cut () (.cons rfl (.cons rfl (.cons rfl (.nil _)))) (by assumption)
    · have hlen : 0 < l.length := List.length_pos_iff.2 hne
      have hlast : l.getLast? = some (l.getD (l.length - 1) 0) := by
        rw [List.getLast?_eq_getElem?]
        simp [List.getD, show l.length - 1 < l.length by omega]
      have hk : NatOf ((l.length : Int) - 1) (l.length - 1) := NatOf.sub (NatOf.cast _) (NatOf.cast 1) (by omega)
      by_cases h13 : l.getD (l.length - 1) 0 = 13
      · have h13' : ((l.getD (l.length - 1) 0).toNat : Int) = 13 := by rw [h13]; rfl
        have hT : Value.string ⟨(l.take (l.length - 1)).toArray⟩ = .string ⟨(trimCR l).toArray⟩ := by
          unfold trimCR; rw [if_pos (by rw [hlast, h13]), List.dropLast_eq_take]
        refine Cd.seq ?_
        refine Cd.region ?_
        refine Seg.step rfl rfl (Yd.move rfl) ?_
        refine Seg.step rfl rfl (Yd.lenStr rfl rfl) ?_
        refine Seg.step rfl rfl (Yd.gtr rfl rfl) ?_
        refine Seg.step rfl rfl (Yd.move rfl) ?_
        refine Seg.gsplitp rfl rfl (fun h20 => ?_) (fun h20 => ?_)
        · refine Seg.step rfl rfl (Yd.move rfl) ?_
          refine Seg.step rfl rfl (Yd.move rfl) ?_
          refine Seg.step rfl rfl (Yd.lenStr rfl rfl) ?_
          refine Seg.step rfl rfl (Yd.subI rfl rfl (by omega)) ?_
          (refine Seg.step rfl rfl (Yd.indexStr rfl rfl rfl hk (by omega)) ?_)
          refine Seg.step rfl rfl (Yd.eql rfl rfl) ?_
          refine Seg.step rfl rfl (Yd.pickT rfl rfl) ?_
          refine Seg.nil ?_
          refine At.then_ ?_
          refine Cd.condk rfl (fun h31 => ?_) (fun h31 => ?_)
          · refine Cd.region ?_
            refine Seg.step rfl rfl (Yd.move rfl) ?_
            refine Seg.step rfl rfl (Yd.move rfl) ?_
            refine Seg.step rfl rfl (Yd.lenStr rfl rfl) ?_
            refine Seg.step rfl rfl (Yd.subI rfl rfl (by omega)) ?_
            (refine Seg.step rfl rfl (Yd.slStrH rfl rfl rfl hk (by omega)) ?_; rw [hT])
            refine Seg.step rfl rfl (Yd.assign rfl) ?_
            refine Seg.nil ?_
            exact At.cut () (.cons rfl (.cons rfl (.cons rfl (.nil _)))) (by assumption)
          · exfalso; omega
        · exfalso; omega
      · have h13' : ¬ ((l.getD (l.length - 1) 0).toNat : Int) = 13 := fun h => h13 (u8_ne.1 (by rw [h]; rfl))
        have hT : trimCR l = l := by
          unfold trimCR; rw [if_neg (by rw [hlast]; simpa using h13)]
        rw [hT]
        refine Cd.seq ?_
        refine Cd.region ?_
        refine Seg.step rfl rfl (Yd.move rfl) ?_
        refine Seg.step rfl rfl (Yd.lenStr rfl rfl) ?_
        refine Seg.step rfl rfl (Yd.gtr rfl rfl) ?_
        refine Seg.step rfl rfl (Yd.move rfl) ?_
        refine Seg.gsplitp rfl rfl (fun h20 => ?_) (fun h20 => ?_)
        · refine Seg.step rfl rfl (Yd.move rfl) ?_
          refine Seg.step rfl rfl (Yd.move rfl) ?_
          refine Seg.step rfl rfl (Yd.lenStr rfl rfl) ?_
          refine Seg.step rfl rfl (Yd.subI rfl rfl (by omega)) ?_
          (refine Seg.step rfl rfl (Yd.indexStr rfl rfl rfl hk (by omega)) ?_)
          refine Seg.step rfl rfl (Yd.eql rfl rfl) ?_
          refine Seg.step rfl rfl (Yd.pickT rfl rfl) ?_
          refine Seg.nil ?_
          refine At.then_ ?_
          refine Cd.condk rfl (fun h31 => ?_) (fun h31 => ?_)
          · exfalso; omega
          · refine Cd.skip ?_
            exact At.cut () (.cons rfl (.cons rfl (.cons rfl (.nil _)))) (by assumption)
        · exfalso; omega
  · obtain ⟨t, htt⟩ : ∃ t, t = trimCR l := ⟨_, rfl⟩
    have hdef : lineF any l = if t = [] ∨ 1000 < t.length then [] else if any then fieldsB (cutB 35 t).1 else if t.getD 0 0 = 35 ∨ t.getD 0 0 = 59 then [] else fieldsB t := by rw [htt]; rfl
    rw [← htt] at ht ⊢
    clear htt
    by_cases h2 : 1000 < t.length
    · rw [if_pos (.inr h2)] at hdef
      rw [hdef]
      refine Cd.seq ?_
      refine Cd.seq ?_
      refine Cd.region ?_
      refine Seg.step rfl rfl (Yd.move rfl) ?_
      refine Seg.step rfl rfl (Yd.lenStr rfl rfl) ?_
      refine Seg.step rfl rfl (Yd.gtr rfl rfl) ?_
      refine Seg.nil ?_
      refine At.then_ ?_
      refine Cd.condk rfl (fun h11 => ?_) (fun h11 => ?_)
      · refine Cd.seq ?_
        refine Cd.region ?_
        refine Seg.step rfl rfl (Yd.assign rfl) ?_
        refine Seg.nil ?_
        refine At.then_ ?_
        refine Cd.ret ?_
        refine At.then_ret ?_
        exact At.ret Try.results32 (.tmp rfl .nil) ⟨⟨nil_at _, AbC.nil _⟩, by assumption⟩
      · exfalso; omega
    · cases any with
      | true =>
        have hF : lineF true l = fieldsB (cutB 35 t).1 := by
          by_cases h1 : t = []
          · rw [hdef, if_pos (.inl h1), h1]; rfl
          · rw [hdef, if_neg (fun h => h.elim h1 h2), if_pos rfl]
        rw [hF]
        refine Cd.seq ?_
        refine Cd.seq ?_
        refine Cd.region ?_
        refine Seg.step rfl rfl (Yd.move rfl) ?_
        refine Seg.step rfl rfl (Yd.lenStr rfl rfl) ?_
        refine Seg.step rfl rfl (Yd.gtr rfl rfl) ?_
        refine Seg.nil ?_
        refine At.then_ ?_
        refine Cd.condk rfl (fun h11 => ?_) (fun h11 => ?_)
        · exfalso; omega
        refine Cd.skip ?_
        refine At.then_ ?_
        refine Cd.seq ?_
        refine Cd.seq ?_
        refine Cd.region ?_
        refine Seg.step rfl rfl (Yd.move rfl) ?_
        refine Seg.nil ?_
        refine At.then_ ?_
        refine Cd.condT rfl ?_
        refine Cd.seq ?_
        refine Cd.region ?_
        refine Seg.step rfl rfl (Yd.assign rfl) ?_
        refine Seg.nil ?_
        refine At.then_ ?_
        refine Cd.block ?_
        refine Cd.loop (σ := Nat) (fun i => [(0, .string ⟨t.toArray⟩), (1, .bool true), (4, .slice none 0 0), (5, .int .i64 (i : Int))])
          (fun i w' => i ≤ t.length ∧ 35 ∉ t.take i ∧ Ext w w') (fun i => t.length - i) 0 (.cons rfl (.cons rfl (.cons rfl (.cons rfl (.nil _))))) ⟨Nat.zero_le _, by simp, by assumption⟩ ?_
        clear hE0
        rintro i w9 ⟨hi, hT, hE0⟩
        by_cases hlt : i < t.length
        · by_cases he : t.getD i 0 = 35
          · have he' : ((t.getD i 0).toNat : Int) = 35 := by rw [he]; rfl
            have hR := cutB_hit hlt hT he
            have hT2 : (t.take i).length ≤ 1000000 := by rw [List.length_take]; omega
            rw [hR]
            refine Cd.seq ?_
            refine Cd.seq ?_
            refine Cd.region ?_
            refine Seg.step rfl rfl (Yd.move rfl) ?_
            refine Seg.step rfl rfl (Yd.move rfl) ?_
            refine Seg.step rfl rfl (Yd.lenStr rfl rfl) ?_
            refine Seg.step rfl rfl (Yd.lss rfl rfl) ?_
            refine Seg.nil ?_
            refine At.then_ ?_
            refine Cd.condk rfl (fun h21 => ?_) (fun h21 => ?_)
            · refine Cd.skip ?_
              refine At.then_ ?_
              refine Cd.seq ?_
              refine Cd.block ?_
              refine Cd.seq ?_
              refine Cd.region ?_
              refine Seg.step rfl rfl (Yd.move rfl) ?_
              refine Seg.step rfl rfl (Yd.move rfl) ?_
              refine Seg.step rfl rfl (Yd.indexStr rfl rfl rfl (NatOf.cast _) (by omega)) ?_
              refine Seg.step rfl rfl (Yd.eql rfl rfl) ?_
              refine Seg.nil ?_
              refine At.then_ ?_
              refine Cd.condk rfl (fun h35 => ?_) (fun h35 => ?_)
              · refine Cd.seq ?_
                refine Cd.region ?_
                refine Seg.step rfl rfl (Yd.move rfl) ?_
                refine Seg.step rfl rfl (Yd.move rfl) ?_
                (refine Seg.step rfl rfl (Yd.slStrH rfl rfl rfl (NatOf.cast i) (by omega)) ?_)
                (refine Seg.call rfl rfl (own_of rfl) rfl (rfields_any (t.take i) _ hT2) ?_; rintro _ w42 ⟨hN42, hE42⟩; have hNX := And.intro hN42.1 (hN42.2.down (Below.size hE0)))
                replace hE0 := Ext.trans hE0 hE42
                refine Seg.step rfl rfl (Yd.assign rfl) ?_
                refine Seg.nil ?_
                refine At.then_ ?_
                refine Cd.ret ?_
                refine At.blk_ret ?_
                refine At.then_ret ?_
                refine At.then_ret ?_
                refine At.blk_ret ?_
                refine At.then_ret ?_
                exact At.ret Try.results32 (.tmp rfl .nil) ⟨hNX, by assumption⟩
              · exfalso; omega
            · exfalso; omega
          · have he' : ¬ ((t.getD i 0).toNat : Int) = 35 := fun h => he (u8_ne.1 (by rw [h]; rfl))
            have hT' := not_in hlt hT he
            refine Cd.seq ?_
            refine Cd.seq ?_
            refine Cd.region ?_
            refine Seg.step rfl rfl (Yd.move rfl) ?_
            refine Seg.step rfl rfl (Yd.move rfl) ?_
            refine Seg.step rfl rfl (Yd.lenStr rfl rfl) ?_
            refine Seg.step rfl rfl (Yd.lss rfl rfl) ?_
            refine Seg.nil ?_
            refine At.then_ ?_
            refine Cd.condk rfl (fun h21 => ?_) (fun h21 => ?_)
            · refine Cd.skip ?_
              refine At.then_ ?_
              refine Cd.seq ?_
              refine Cd.block ?_
              refine Cd.seq ?_
              refine Cd.region ?_
              refine Seg.step rfl rfl (Yd.move rfl) ?_
              refine Seg.step rfl rfl (Yd.move rfl) ?_
              refine Seg.step rfl rfl (Yd.indexStr rfl rfl rfl (NatOf.cast _) (by omega)) ?_
              refine Seg.step rfl rfl (Yd.eql rfl rfl) ?_
              refine Seg.nil ?_
              refine At.then_ ?_
              refine Cd.condk rfl (fun h35 => ?_) (fun h35 => ?_)
              · exfalso; omega
              · refine Cd.skip ?_
                refine At.blk ?_
                refine At.then_ ?_
                refine Cd.region ?_
                refine Seg.step rfl rfl (Yd.move rfl) ?_
                refine Seg.step rfl rfl (Yd.addI rfl rfl (by omega)) ?_
                refine Seg.step rfl rfl (Yd.assign rfl) ?_
                refine Seg.nil ?_
                exact At.round (i + 1) (.cons rfl (.cons rfl (.cons rfl (.cons rfl (.nil _))))) ⟨hlt, hT', hE0⟩ (Nat.sub_lt_sub_left hlt (Nat.lt_succ_self i))
            · exfalso; omega
        · have hil : t.take i = t := List.take_of_length_le (by omega)
          rw [hil] at hT
          rw [cutB_none hT]
          refine Cd.seq ?_
          refine Cd.seq ?_
          refine Cd.region ?_
          refine Seg.step rfl rfl (Yd.move rfl) ?_
          refine Seg.step rfl rfl (Yd.move rfl) ?_
          refine Seg.step rfl rfl (Yd.lenStr rfl rfl) ?_
          refine Seg.step rfl rfl (Yd.lss rfl rfl) ?_
          refine Seg.nil ?_
          refine At.then_ ?_
          refine Cd.condk rfl (fun h21 => ?_) (fun h21 => ?_)
          · exfalso; omega
          · refine Cd.exit ?_
            refine At.then_exit ?_
            refine At.then_exit ?_
            refine At.blk_same ?_
            refine At.then_ ?_
            refine Cd.seq ?_
            refine Cd.region ?_
            refine Seg.step rfl rfl (Yd.move rfl) ?_
            (refine Seg.call rfl rfl (own_of rfl) rfl (rfields_any t _ (by omega)) ?_; rintro _ w31 ⟨hN31, hE31⟩; have hNX := And.intro hN31.1 (hN31.2.down (Below.size hE0)))
            replace hE0 := Ext.trans hE0 hE31
            refine Seg.step rfl rfl (Yd.assign rfl) ?_
            refine Seg.nil ?_
            refine At.then_ ?_
            refine Cd.ret ?_
            exact At.ret Try.results32 (.tmp rfl .nil) ⟨hNX, by assumption⟩
      | false =>
        by_cases h1 : t = []
        · rw [if_pos (.inl h1)] at hdef
          have hF : fieldsB t = [] := by rw [h1]; rfl
          rw [hdef, ← hF]
          have h0 : t.length = 0 := by rw [h1]; rfl
          refine Cd.seq ?_
          refine Cd.seq ?_
          refine Cd.region ?_
          refine Seg.step rfl rfl (Yd.move rfl) ?_
          refine Seg.step rfl rfl (Yd.lenStr rfl rfl) ?_
          refine Seg.step rfl rfl (Yd.gtr rfl rfl) ?_
          refine Seg.nil ?_
          refine At.then_ ?_
          refine Cd.condk rfl (fun h11 => ?_) (fun h11 => ?_)
          · exfalso; omega
          · refine Cd.skip ?_
            refine At.then_ ?_
            refine Cd.seq ?_
            refine Cd.seq ?_
            refine Cd.region ?_
            refine Seg.step rfl rfl (Yd.move rfl) ?_
            refine Seg.nil ?_
            refine At.then_ ?_
            refine Cd.condF rfl ?_
            refine Cd.seq ?_
            refine Cd.region ?_
            refine Seg.step rfl rfl (Yd.move rfl) ?_
            refine Seg.step rfl rfl (Yd.lenStr rfl rfl) ?_
            refine Seg.step rfl rfl (Yd.gtr rfl rfl) ?_
            refine Seg.step rfl rfl (Yd.move rfl) ?_
            refine Seg.gsplitp rfl rfl (fun h28 => ?_) (fun h28 => ?_)
            · exfalso; omega
            · refine Seg.skip rfl rfl ?_
              refine Seg.skip rfl rfl ?_
              refine Seg.skip rfl rfl ?_
              refine Seg.skip rfl rfl ?_
              refine Seg.skip rfl rfl ?_
              refine Seg.skip rfl rfl ?_
              refine Seg.skip rfl rfl ?_
              refine Seg.skip rfl rfl ?_
              refine Seg.step rfl rfl (Yd.pickF rfl rfl) ?_
              refine Seg.nil ?_
              refine At.then_ ?_
              refine Cd.condF rfl ?_
              refine Cd.skip ?_
              refine At.then_ ?_
              refine Cd.seq ?_
              refine Cd.region ?_
              refine Seg.step rfl rfl (Yd.move rfl) ?_
              (refine Seg.call rfl rfl (own_of rfl) rfl (rfields_any t _ (by omega)) ?_; rintro _ w47 ⟨hN47, hE47⟩; have hNX := And.intro hN47.1 (hN47.2.down (Below.size hE0)))
              replace hE0 := Ext.trans hE0 hE47
              refine Seg.step rfl rfl (Yd.assign rfl) ?_
              refine Seg.nil ?_
              refine At.then_ ?_
              refine Cd.ret ?_
              exact At.ret Try.results32 (.tmp rfl .nil) ⟨hNX, by assumption⟩
        · rw [if_neg (fun h => h.elim h1 h2), if_neg (by simp)] at hdef
          have hlen : 0 < t.length := List.length_pos_iff.2 h1
          by_cases h3 : t.getD 0 0 = 35 ∨ t.getD 0 0 = 59
          · rw [if_pos h3] at hdef
            rw [hdef]
            have h4 : ((t.getD 0 0).toNat : Int) = 35 ∨ ((t.getD 0 0).toNat : Int) = 59 := by
              rcases h3 with h | h <;> rw [h]
              · exact .inl rfl
              · exact .inr rfl
            refine Cd.seq ?_
            refine Cd.seq ?_
            refine Cd.region ?_
            refine Seg.step rfl rfl (Yd.move rfl) ?_
            refine Seg.step rfl rfl (Yd.lenStr rfl rfl) ?_
            refine Seg.step rfl rfl (Yd.gtr rfl rfl) ?_
            refine Seg.nil ?_
            refine At.then_ ?_
            refine Cd.condk rfl (fun h13 => ?_) (fun h13 => ?_)
            · exfalso; omega
            · refine Cd.skip ?_
              refine At.then_ ?_
              refine Cd.seq ?_
              refine Cd.seq ?_
              refine Cd.region ?_
              refine Seg.step rfl rfl (Yd.move rfl) ?_
              refine Seg.nil ?_
              refine At.then_ ?_
              refine Cd.condF rfl ?_
              refine Cd.seq ?_
              refine Cd.region ?_
              refine Seg.step rfl rfl (Yd.move rfl) ?_
              refine Seg.step rfl rfl (Yd.lenStr rfl rfl) ?_
              refine Seg.step rfl rfl (Yd.gtr rfl rfl) ?_
              refine Seg.step rfl rfl (Yd.move rfl) ?_
              refine Seg.gsplitp rfl rfl (fun h30 => ?_) (fun h30 => ?_)
              · refine Seg.step rfl rfl (Yd.move rfl) ?_
                (refine Seg.step rfl rfl (Yd.indexStr (k := 0) rfl rfl rfl rfl hlen) ?_)
                refine Seg.step rfl rfl (Yd.eql rfl rfl) ?_
                refine Seg.step rfl rfl (Yd.move rfl) ?_
                refine Seg.gsplitp rfl rfl (fun h36 => ?_) (fun h36 => ?_)
                · refine Seg.skip rfl rfl ?_
                  refine Seg.skip rfl rfl ?_
                  refine Seg.skip rfl rfl ?_
                  refine Seg.step rfl rfl (Yd.pickT rfl rfl) ?_
                  refine Seg.step rfl rfl (Yd.pickT rfl rfl) ?_
                  refine Seg.nil ?_
                  refine At.then_ ?_
                  refine Cd.condT rfl ?_
                  refine Cd.seq ?_
                  refine Cd.region ?_
                  refine Seg.step rfl rfl (Yd.assign rfl) ?_
                  refine Seg.nil ?_
                  refine At.then_ ?_
                  refine Cd.ret ?_
                  refine At.then_ret ?_
                  exact At.ret Try.results32 (.tmp rfl .nil) ⟨⟨nil_at _, AbC.nil _⟩, by assumption⟩
                · refine Seg.step rfl rfl (Yd.move rfl) ?_
                  (refine Seg.step rfl rfl (Yd.indexStr (k := 0) rfl rfl rfl rfl hlen) ?_)
                  refine Seg.step rfl rfl (Yd.eql rfl rfl) ?_
                  refine Seg.step rfl rfl (Yd.pickF rfl rfl) ?_
                  refine Seg.step rfl rfl (Yd.pickT rfl rfl) ?_
                  refine Seg.nil ?_
                  refine At.then_ ?_
                  refine Cd.condk rfl (fun h62 => ?_) (fun h62 => ?_)
                  · refine Cd.seq ?_
                    refine Cd.region ?_
                    refine Seg.step rfl rfl (Yd.assign rfl) ?_
                    refine Seg.nil ?_
                    refine At.then_ ?_
                    refine Cd.ret ?_
                    refine At.then_ret ?_
                    exact At.ret Try.results32 (.tmp rfl .nil) ⟨⟨nil_at _, AbC.nil _⟩, by assumption⟩
                  · exfalso; omega
              · exfalso; omega
          · rw [if_neg h3] at hdef
            rw [hdef]
            have h4 : ¬ ((t.getD 0 0).toNat : Int) = 35 := fun h => h3 (.inl (u8_ne.1 (by rw [h]; rfl)))
            have h5 : ¬ ((t.getD 0 0).toNat : Int) = 59 := fun h => h3 (.inr (u8_ne.1 (by rw [h]; rfl)))
            refine Cd.seq ?_
            refine Cd.seq ?_
            refine Cd.region ?_
            refine Seg.step rfl rfl (Yd.move rfl) ?_
            refine Seg.step rfl rfl (Yd.lenStr rfl rfl) ?_
            refine Seg.step rfl rfl (Yd.gtr rfl rfl) ?_
            refine Seg.nil ?_
            refine At.then_ ?_
            refine Cd.condk rfl (fun h14 => ?_) (fun h14 => ?_)
            · exfalso; omega
            · refine Cd.skip ?_
              refine At.then_ ?_
              refine Cd.seq ?_
              refine Cd.seq ?_
              refine Cd.region ?_
              refine Seg.step rfl rfl (Yd.move rfl) ?_
              refine Seg.nil ?_
              refine At.then_ ?_
              refine Cd.condF rfl ?_
              refine Cd.seq ?_
              refine Cd.region ?_
              refine Seg.step rfl rfl (Yd.move rfl) ?_
              refine Seg.step rfl rfl (Yd.lenStr rfl rfl) ?_
              refine Seg.step rfl rfl (Yd.gtr rfl rfl) ?_
              refine Seg.step rfl rfl (Yd.move rfl) ?_
              refine Seg.gsplitp rfl rfl (fun h31 => ?_) (fun h31 => ?_)
              · refine Seg.step rfl rfl (Yd.move rfl) ?_
                (refine Seg.step rfl rfl (Yd.indexStr (k := 0) rfl rfl rfl rfl hlen) ?_)
                refine Seg.step rfl rfl (Yd.eql rfl rfl) ?_
                refine Seg.step rfl rfl (Yd.move rfl) ?_
                refine Seg.gsplitp rfl rfl (fun h37 => ?_) (fun h37 => ?_)
                · exfalso; omega
                · refine Seg.step rfl rfl (Yd.move rfl) ?_
                  (refine Seg.step rfl rfl (Yd.indexStr (k := 0) rfl rfl rfl rfl hlen) ?_)
                  refine Seg.step rfl rfl (Yd.eql rfl rfl) ?_
                  refine Seg.step rfl rfl (Yd.pickF rfl rfl) ?_
                  refine Seg.step rfl rfl (Yd.pickT rfl rfl) ?_
                  refine Seg.nil ?_
                  refine At.then_ ?_
                  refine Cd.condk rfl (fun h46 => ?_) (fun h46 => ?_)
                  · exfalso; omega
                  · refine Cd.skip ?_
                    refine At.then_ ?_
                    refine Cd.seq ?_
                    refine Cd.region ?_
                    refine Seg.step rfl rfl (Yd.move rfl) ?_
                    (refine Seg.call rfl rfl (own_of rfl) rfl (rfields_any t _ (by omega)) ?_; rintro _ w53 ⟨hN53, hE53⟩; have hNX := And.intro hN53.1 (hN53.2.down (Below.size hE0)))
                    replace hE0 := Ext.trans hE0 hE53
                    refine Seg.step rfl rfl (Yd.assign rfl) ?_
                    refine Seg.nil ?_
                    refine At.then_ ?_
                    refine Cd.ret ?_
                    exact At.ret Try.results32 (.tmp rfl .nil) ⟨hNX, by assumption⟩
              · exfalso; omega
end Go.Proofs.Ytbmgigbedmgfpaa
