/- What stands between blanks: the walk. -/
import Derived.Test.YtbmgigbedmgfpaaAsb
namespace Go.Proofs.Ytbmgigbedmgfpaa
open Go Go.RowKit
/-- What stands between blanks, a word being begun. -/
def fldA : List UInt8 → List UInt8 → List (List UInt8)
  | wd, [] => if wd = [] then [] else [wd]
  | wd, b :: r => if isBl b then (if wd = [] then fldA [] r else wd :: fldA [] r) else fldA (wd ++ [b]) r
def fieldsB (l : List UInt8) : List (List UInt8) := fldA [] l
def subB (l : List UInt8) (i j : Nat) : List UInt8 := (l.take j).drop i
theorem drop_at {l : List UInt8} {i : Nat} (h : i < l.length) : l.drop i = l.getD i 0 :: l.drop (i + 1) := by
  rw [List.drop_eq_getElem_cons h]; simp [List.getD, h]
theorem subB_self (l : List UInt8) (i : Nat) : subB l i i = [] := by unfold subB; rw [List.drop_eq_nil_iff, List.length_take]; omega
theorem subB_succ {l : List UInt8} {i j : Nat} (h : i ≤ j) (hj : j < l.length) : subB l i (j + 1) = subB l i j ++ [l.getD j 0] := by
  unfold subB
  rw [List.take_add_one, List.getElem?_eq_getElem hj, List.drop_append_of_le_length (by rw [List.length_take]; omega)]
  simp [List.getD, hj]
theorem subB_ne {l : List UInt8} {i j : Nat} (h : i < j) (hj : j ≤ l.length) : subB l i j ≠ [] := by
  intro e
  have := congrArg List.length e
  simp [subB] at this
  omega
theorem fld_skip {l : List UInt8} {i : Nat} (h : i < l.length) (hb : isBl (l.getD i 0)) : fldA [] (l.drop i) = fldA [] (l.drop (i + 1)) := by
  rw [drop_at h, fldA, if_pos hb, if_pos rfl]
theorem fld_go {l : List UInt8} {i j : Nat} (hij : i ≤ j) (h : j < l.length) (hb : ¬ isBl (l.getD j 0)) : fldA (subB l i j) (l.drop j) = fldA (subB l i (j + 1)) (l.drop (j + 1)) := by
  rw [drop_at h, fldA, if_neg hb, subB_succ hij h]
theorem fld_end {l : List UInt8} {i j : Nat} (hij : i < j) (h : j ≤ l.length) (hb : j < l.length → isBl (l.getD j 0)) : fldA (subB l i j) (l.drop j) = subB l i j :: fldA [] (l.drop j) := by
  rcases Nat.lt_or_eq_of_le h with h1 | h1
  · rw [drop_at h1]
    have hb := hb h1
    conv => lhs; rw [fldA, if_pos hb, if_neg (subB_ne hij h)]
    conv => rhs; rw [fldA, if_pos hb, if_pos rfl]
  · rw [h1, List.drop_length, fldA, fldA, if_neg (by rw [← h1]; exact subB_ne hij h), if_pos rfl]
theorem strV_snoc {w : World} {base e k : Nat} {v : Value} {ds : List (List UInt8)} {x : List UInt8} (h : w.ownsRow base e k v (ds.length + 1) (strV ds ++ strV [x])) : w.ownsRow base e k v (ds ++ [x]).length (strV (ds ++ [x])) := by
  have e1 : (ds ++ [x]).length = ds.length + 1 := by simp
  have e2 : strV (ds ++ [x]) = strV ds ++ strV [x] := by simp [strV]
  rw [e1, e2]; exact h
/-- Above block N, and no longer than its room. -/
def AbC (N : Nat) (v : Value) : Prop := Above N v ∧ ∀ a m c, v = .slice a m c → m ≤ c
theorem AbC.down {N N' : Nat} {v : Value} (h : AbC N v) (hN : N' ≤ N) : AbC N' v := ⟨h.1.down hN, h.2⟩
theorem AbC.nil (N : Nat) : AbC N (.slice none 0 0) := ⟨Above.nil N, fun _ _ _ h => by cases h; exact Nat.le_refl _⟩
theorem own_abc {w : World} {base e k m : Nat} {v : Value} {cs : List Value} (h : w.ownsRow base e k v m cs) : AbC base v := ⟨own_above h, fun a m' c hv => by
  rcases h.2 with ⟨rfl, rfl⟩ | ⟨g, cap, cur, rfl, _, _, hn, _⟩
  · cases hv; exact Nat.le_refl _
  · cases hv; exact hn⟩
theorem fields_any (l : List UInt8) (w : World) (hl : l.length ≤ 1000000) : Ret Try.prog 40 #[.string ⟨l.toArray⟩] w fun v w' => (NameAt w' v (fieldsB l) ∧ AbC w.heap.size v) ∧ Ext w w' := by
  have hE0 := Ext.refl w
  refine Ret.body Try.func40 rfl Try.ntmps40 rfl ?_
  refine Cd.seq ?_
  refine Cd.region ?_
  refine Seg.step rfl rfl (Yd.assign rfl) ?_
  refine Seg.nil ?_
  refine At.then_ ?_
  refine Cd.seq ?_
  refine Cd.region ?_
  refine Seg.step rfl rfl (Yd.assign rfl) ?_
  refine Seg.nil ?_
  refine At.then_ ?_
  refine Cd.seq ?_
  refine Cd.region ?_
  refine Seg.step rfl rfl (Yd.assign rfl) ?_
  refine Seg.nil ?_
  refine At.then_ ?_
  refine Cd.seq ?_
  refine Cd.block ?_
  refine Cd.loop (σ := List (List UInt8) × Value × Nat) (fun s => [(0, .string ⟨l.toArray⟩), (3, s.2.1), (4, .int .i64 (s.2.2 : Int))])
    (fun s w' => (s.2.2 ≤ l.length ∧ s.1.length ≤ s.2.2 ∧ s.1 ++ fldA [] (l.drop s.2.2) = fieldsB l) ∧ w'.ownsRow w.heap.size 9 1 s.2.1 s.1.length (strV s.1) ∧ Ext w w') (fun s => l.length - s.2.2) ([], .slice none 0 0, 0) (.cons rfl (.cons rfl (.cons rfl (.nil _))))
    ⟨⟨Nat.zero_le _, Nat.zero_le _, by simp [fieldsB]⟩, World.ownsRow_nil _ _ _ _, hE0⟩ ?_
  clear hE0
  rintro ⟨ds, v, i⟩ w0 ⟨⟨hi, hd, hf⟩, hO, hE0⟩
  simp only at hi hd hf hO ⊢
  by_cases hlt : i < l.length
  · by_cases hb : isBl (l.getD i 0)
    · have hbd : decide (isBl (l.getD i 0)) = true := decide_eq_true hb
      have hs : i + 1 ≤ l.length ∧ ds.length ≤ i + 1 ∧ ds ++ fldA [] (l.drop (i + 1)) = fieldsB l := ⟨hlt, by omega, by rw [← hf, fld_skip hlt hb]⟩
      refine Cd.seq ?_
      refine Cd.seq ?_
      refine Cd.region ?_
      refine Seg.step rfl rfl (Yd.move rfl) ?_
      refine Seg.step rfl rfl (Yd.move rfl) ?_
      refine Seg.step rfl rfl (Yd.lenStr rfl rfl) ?_
      refine Seg.step rfl rfl (Yd.lss rfl rfl) ?_
      refine Seg.nil ?_
      refine At.then_ ?_
      refine Cd.condk rfl (fun h10 => ?_) (fun h10 => ?_)
      · refine Cd.skip ?_
        refine At.then_ ?_
        refine Cd.block ?_
        refine Cd.seq ?_
        refine Cd.seq ?_
        refine Cd.region ?_
        refine Seg.step rfl rfl (Yd.move rfl) ?_
        refine Seg.step rfl rfl (Yd.move rfl) ?_
        refine Seg.step rfl rfl (Yd.indexStr rfl rfl rfl (NatOf.cast _) (by omega)) ?_
        (refine Seg.call rfl rfl (own_of rfl) rfl (blank_any _ _) ?_; rw [hbd]; rintro _ w21 ⟨rfl, hE21⟩)
        replace hO := own_ext hO hE21
        replace hE0 := Ext.trans hE0 hE21
        refine Seg.nil ?_
        refine At.then_ ?_
        refine Cd.condT rfl ?_
        refine Cd.seq ?_
        refine Cd.region ?_
        refine Seg.step rfl rfl (Yd.move rfl) ?_
        refine Seg.step rfl rfl (Yd.addI rfl rfl (by omega)) ?_
        refine Seg.step rfl rfl (Yd.assign rfl) ?_
        refine Seg.nil ?_
        refine At.then_ ?_
        refine Cd.exit ?_
        refine At.then_exit ?_
        refine At.blk_same ?_
        exact At.round (ds, v, i + 1) (.cons rfl (.cons rfl (.cons rfl (.nil _)))) ⟨hs, hO, hE0⟩ (Nat.sub_lt_sub_left hlt (Nat.lt_succ_self i))
      · exfalso; omega
    · have hbd : decide (isBl (l.getD i 0)) = false := decide_eq_false hb
      refine Cd.seq ?_
      refine Cd.seq ?_
      refine Cd.region ?_
      refine Seg.step rfl rfl (Yd.move rfl) ?_
      refine Seg.step rfl rfl (Yd.move rfl) ?_
      refine Seg.step rfl rfl (Yd.lenStr rfl rfl) ?_
      refine Seg.step rfl rfl (Yd.lss rfl rfl) ?_
      refine Seg.nil ?_
      refine At.then_ ?_
      refine Cd.condk rfl (fun h10 => ?_) (fun h10 => ?_)
      rotate_left 1
      · exfalso; omega
      rotate_right 1
      refine Cd.skip ?_
      refine At.then_ ?_
      refine Cd.block ?_
      refine Cd.seq ?_
      refine Cd.seq ?_
      refine Cd.region ?_
      refine Seg.step rfl rfl (Yd.move rfl) ?_
      refine Seg.step rfl rfl (Yd.move rfl) ?_
      refine Seg.step rfl rfl (Yd.indexStr rfl rfl rfl (NatOf.cast _) (by omega)) ?_
      (refine Seg.call rfl rfl (own_of rfl) rfl (blank_any _ _) ?_; rw [hbd]; rintro _ w21 ⟨rfl, hE21⟩)
      replace hO := own_ext hO hE21
      replace hE0 := Ext.trans hE0 hE21
      refine Seg.nil ?_
      refine At.then_ ?_
      refine Cd.condF rfl ?_
      refine Cd.skip ?_
      refine At.then_ ?_
      refine Cd.seq ?_
      refine Cd.region ?_
      refine Seg.step rfl rfl (Yd.move rfl) ?_
      refine Seg.step rfl rfl (Yd.assign rfl) ?_
      refine Seg.nil ?_
      refine At.then_ ?_
      refine Cd.seq ?_
      refine Cd.block ?_
      refine Cd.loop (σ := Nat) (fun j => [(0, .string ⟨l.toArray⟩), (3, v), (4, .int .i64 (i : Int)), (5, .int .i64 (j : Int))])
        (fun j w' => (i ≤ j ∧ j ≤ l.length ∧ fldA [] (l.drop i) = fldA (subB l i j) (l.drop j)) ∧ w'.ownsRow w.heap.size 9 1 v ds.length (strV ds) ∧ Ext w w') (fun j => l.length - j) i (.cons rfl (.cons rfl (.cons rfl (.cons rfl (.nil _)))))
        ⟨⟨Nat.le_refl _, hi, by rw [subB_self]⟩, hO, hE0⟩ ?_
      clear hE0 hO
      rintro j w1 ⟨⟨hij, hj, hfj⟩, hO, hE0⟩
      have hend : i < j → (j < l.length → isBl (l.getD j 0)) → j ≤ l.length ∧ (ds ++ [subB l i j]).length ≤ j ∧ (ds ++ [subB l i j]) ++ fldA [] (l.drop j) = fieldsB l := fun h1 h2 =>
        ⟨hj, by simp; omega, by rw [← hf, hfj, fld_end h1 hj h2]; simp⟩
      by_cases hjl : j < l.length
      · by_cases hbj : isBl (l.getD j 0)
        · have hbd : decide (isBl (l.getD j 0)) = true := decide_eq_true hbj
          have hlij : i < j := by
            rcases Nat.lt_or_eq_of_le hij with h | rfl
            · exact h
            · exact absurd hbj hb
          have hend := hend hlij (fun _ => hbj)
          refine Cd.seq ?_
          refine Cd.seq ?_
          refine Cd.region ?_
          refine Seg.step rfl rfl (Yd.move rfl) ?_
          refine Seg.step rfl rfl (Yd.move rfl) ?_
          refine Seg.step rfl rfl (Yd.lenStr rfl rfl) ?_
          refine Seg.step rfl rfl (Yd.lss rfl rfl) ?_
          refine Seg.step rfl rfl (Yd.move rfl) ?_
          refine Seg.gsplitp rfl rfl (fun h30 => ?_) (fun h30 => ?_)
          · refine Seg.step rfl rfl (Yd.move rfl) ?_
            refine Seg.step rfl rfl (Yd.move rfl) ?_
            refine Seg.step rfl rfl (Yd.indexStr rfl rfl rfl (NatOf.cast _) (by omega)) ?_
            (refine Seg.call rfl rfl (own_of rfl) rfl (blank_any _ _) ?_; rw [hbd]; rintro _ w35 ⟨rfl, hE35⟩)
            replace hO := own_ext hO hE35
            replace hE0 := Ext.trans hE0 hE35
            refine Seg.step rfl rfl (Yd.not rfl) ?_
            refine Seg.step rfl rfl (Yd.pickT rfl rfl) ?_
            refine Seg.nil ?_
            refine At.then_ ?_
            refine Cd.condF rfl ?_
            refine Cd.exit ?_
            refine At.then_exit ?_
            refine At.then_exit ?_
            refine At.blk_same ?_
            refine At.then_ ?_
            refine Cd.seq ?_
            refine Cd.region ?_
            refine Seg.step rfl rfl (Yd.move rfl) ?_
            refine Seg.step rfl rfl (Yd.move rfl) ?_
            refine Seg.step rfl rfl (Yd.move rfl) ?_
            refine Seg.step rfl rfl (Yd.move rfl) ?_
            (refine Seg.step rfl rfl (Yd.slStr rfl rfl rfl rfl (NatOf.cast i) (NatOf.cast j) hij hj) ?_)
            refine Seg.buildSliceV rfl rfl rfl rfl rfl rfl rfl rfl rfl rfl (fun w53 b53 hE53 hB53 hb53 hO53 => ?_)
            have hlt53_0 := Nat.le_trans hE35.size hb53
            have hlt53_1 := Nat.le_trans hE0.size hb53
            replace hE35 := Ext.trans hE35 hE53
            replace hO := own_ext hO hE53
            replace hE0 := Ext.trans hE0 hE53
            (refine Seg.append (news := strV [subB l i j]) (m' := 1) rfl rfl rfl rfl rfl rfl rfl rfl rfl hO (own_sl hO53) (strV_one _) (Below.size hE0) (by omega) rfl (fun v54 w54 hN hG54 _ => ?_); replace hE0 := hE0.own hO (Nat.le_refl _) hG54)
            refine Seg.step rfl rfl (Yd.assign rfl) ?_
            refine Seg.nil ?_
            refine At.then_ ?_
            refine Cd.region ?_
            refine Seg.step rfl rfl (Yd.move rfl) ?_
            refine Seg.step rfl rfl (Yd.assign rfl) ?_
            refine Seg.nil ?_
            refine At.blk ?_
            exact At.round (ds ++ [subB l i j], _, j) (.cons rfl (.cons rfl (.cons rfl (.nil _)))) ⟨hend, strV_snoc hN, hE0⟩ (Nat.sub_lt_sub_left hlt hlij)
          · exfalso; omega
        · have hbd : decide (isBl (l.getD j 0)) = false := decide_eq_false hbj
          have hgo := fld_go hij hjl hbj
          have hs : i ≤ j + 1 ∧ j + 1 ≤ l.length ∧ fldA [] (l.drop i) = fldA (subB l i (j + 1)) (l.drop (j + 1)) := ⟨by omega, hjl, by rw [hfj, hgo]⟩
          refine Cd.seq ?_
          refine Cd.seq ?_
          refine Cd.region ?_
          refine Seg.step rfl rfl (Yd.move rfl) ?_
          refine Seg.step rfl rfl (Yd.move rfl) ?_
          refine Seg.step rfl rfl (Yd.lenStr rfl rfl) ?_
          refine Seg.step rfl rfl (Yd.lss rfl rfl) ?_
          refine Seg.step rfl rfl (Yd.move rfl) ?_
          refine Seg.gsplitp rfl rfl (fun h30 => ?_) (fun h30 => ?_)
          · refine Seg.step rfl rfl (Yd.move rfl) ?_
            refine Seg.step rfl rfl (Yd.move rfl) ?_
            refine Seg.step rfl rfl (Yd.indexStr rfl rfl rfl (NatOf.cast _) (by omega)) ?_
            (refine Seg.call rfl rfl (own_of rfl) rfl (blank_any _ _) ?_; rw [hbd]; rintro _ w35 ⟨rfl, hE35⟩)
            replace hO := own_ext hO hE35
            replace hE0 := Ext.trans hE0 hE35
            refine Seg.step rfl rfl (Yd.not rfl) ?_
            refine Seg.step rfl rfl (Yd.pickT rfl rfl) ?_
            refine Seg.nil ?_
            refine At.then_ ?_
            refine Cd.condT rfl ?_
            refine Cd.skip ?_
            refine At.then_ ?_
            refine Cd.block ?_
            refine Cd.region ?_
            refine Seg.step rfl rfl (Yd.move rfl) ?_
            refine Seg.step rfl rfl (Yd.addI rfl rfl (by omega)) ?_
            refine Seg.step rfl rfl (Yd.assign rfl) ?_
            refine Seg.nil ?_
            refine At.blk ?_
            exact At.round (j + 1) (.cons rfl (.cons rfl (.cons rfl (.cons rfl (.nil _))))) ⟨hs, hO, hE0⟩ (Nat.sub_lt_sub_left hjl (Nat.lt_succ_self j))
          · exfalso; omega
      · have hlij : i < j := by omega
        have hend := hend hlij (fun h => absurd h hjl)
        refine Cd.seq ?_
        refine Cd.seq ?_
        refine Cd.region ?_
        refine Seg.step rfl rfl (Yd.move rfl) ?_
        refine Seg.step rfl rfl (Yd.move rfl) ?_
        refine Seg.step rfl rfl (Yd.lenStr rfl rfl) ?_
        refine Seg.step rfl rfl (Yd.lss rfl rfl) ?_
        refine Seg.step rfl rfl (Yd.move rfl) ?_
        refine Seg.gsplitp rfl rfl (fun h30 => ?_) (fun h30 => ?_)
        · exfalso; omega
        · refine Seg.skip rfl rfl ?_
          refine Seg.skip rfl rfl ?_
          refine Seg.skip rfl rfl ?_
          refine Seg.skip rfl rfl ?_
          refine Seg.skip rfl rfl ?_
          refine Seg.step rfl rfl (Yd.pickF rfl rfl) ?_
          refine Seg.nil ?_
          refine At.then_ ?_
          refine Cd.condF rfl ?_
          refine Cd.exit ?_
          refine At.then_exit ?_
          refine At.then_exit ?_
          refine At.blk_same ?_
          refine At.then_ ?_
          refine Cd.seq ?_
          refine Cd.region ?_
          refine Seg.step rfl rfl (Yd.move rfl) ?_
          refine Seg.step rfl rfl (Yd.move rfl) ?_
          refine Seg.step rfl rfl (Yd.move rfl) ?_
          refine Seg.step rfl rfl (Yd.move rfl) ?_
          (refine Seg.step rfl rfl (Yd.slStr rfl rfl rfl rfl (NatOf.cast i) (NatOf.cast j) hij hj) ?_)
          refine Seg.buildSliceV rfl rfl rfl rfl rfl rfl rfl rfl rfl rfl (fun w53 b53 hE53 hB53 hb53 hO53 => ?_)
          have hlt53_0 := Nat.le_trans hE0.size hb53
          replace hO := own_ext hO hE53
          replace hE0 := Ext.trans hE0 hE53
          (refine Seg.append (news := strV [subB l i j]) (m' := 1) rfl rfl rfl rfl rfl rfl rfl rfl rfl hO (own_sl hO53) (strV_one _) (Below.size hE0) (by omega) rfl (fun v54 w54 hN hG54 _ => ?_); replace hE0 := hE0.own hO (Nat.le_refl _) hG54)
          refine Seg.step rfl rfl (Yd.assign rfl) ?_
          refine Seg.nil ?_
          refine At.then_ ?_
          refine Cd.region ?_
          refine Seg.step rfl rfl (Yd.move rfl) ?_
          refine Seg.step rfl rfl (Yd.assign rfl) ?_
          refine Seg.nil ?_
          refine At.blk ?_
          exact At.round (ds ++ [subB l i j], _, j) (.cons rfl (.cons rfl (.cons rfl (.nil _)))) ⟨hend, strV_snoc hN, hE0⟩ (Nat.sub_lt_sub_left hlt hlij)
  · have hil : i = l.length := by omega
    have hfd : ds = fieldsB l := by rw [← hf, hil, List.drop_length]; simp [fldA]
    refine Cd.seq ?_
    refine Cd.seq ?_
    refine Cd.region ?_
    refine Seg.step rfl rfl (Yd.move rfl) ?_
    refine Seg.step rfl rfl (Yd.move rfl) ?_
    refine Seg.step rfl rfl (Yd.lenStr rfl rfl) ?_
    refine Seg.step rfl rfl (Yd.lss rfl rfl) ?_
    refine Seg.nil ?_
    refine At.then_ ?_
    refine Cd.condk rfl (fun h10 => ?_) (fun h10 => ?_)
    · exfalso; omega
    · refine Cd.exit ?_
      refine At.then_exit ?_
      refine At.then_exit ?_
      refine At.blk_same ?_
      refine At.then_ ?_
      refine Cd.seq ?_
      refine Cd.region ?_
      refine Seg.step rfl rfl (Yd.move rfl) ?_
      refine Seg.step rfl rfl (Yd.assign rfl) ?_
      refine Seg.nil ?_
      refine At.then_ ?_
      refine Cd.ret ?_
      exact At.ret Try.results40 (.tmp rfl .nil) ⟨⟨by rw [← hfd]; exact own_sl hO, own_abc hO⟩, hE0⟩
end Go.Proofs.Ytbmgigbedmgfpaa
