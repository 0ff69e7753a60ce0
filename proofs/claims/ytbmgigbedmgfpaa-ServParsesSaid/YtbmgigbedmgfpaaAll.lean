/- The lines that have fields, as the iterator tells them. -/
import Derived.Test.YtbmgigbedmgfpaaLit
namespace Go.Proofs.Ytbmgigbedmgfpaa
open Go Go.RowKit
/-- The lines that have fields, with their numbers. -/
def allFrom (any : Bool) : Nat → List (List UInt8) → List (Nat × List (List UInt8))
  | _, [] => []
  | n, l :: ls => (if lineF any l = [] then [] else [(n, lineF any l)]) ++ allFrom any (n + 1) ls
def allB (any : Bool) (s : List UInt8) : List (Nat × List (List UInt8)) := allFrom any 1 (linesB s)
theorem all_append (any : Bool) : ∀ (xs ys : List (List UInt8)) (n : Nat), allFrom any n (xs ++ ys) = allFrom any n xs ++ allFrom any (n + xs.length) ys
  | [], ys, n => by simp [allFrom]
  | x :: xs, ys, n => by
    rw [List.cons_append, allFrom, allFrom, all_append any xs ys (n + 1), List.append_assoc]
    congr 3
    simp only [List.length_cons]; omega
theorem all_le (any : Bool) : ∀ (xs : List (List UInt8)) (n : Nat), (allFrom any n xs).length ≤ xs.length
  | [], n => by simp [allFrom]
  | x :: xs, n => by
    have := all_le any xs (n + 1)
    rw [allFrom, List.length_append]
    split <;> simp <;> omega
/-- How many of the first i lines have fields. -/
def cntL (any : Bool) (s : List UInt8) (i : Nat) : Nat := (allFrom any 1 ((linesB s).take i)).length
theorem cntL_zero (any : Bool) (s : List UInt8) : cntL any s 0 = 0 := rfl
theorem cntL_all (any : Bool) (s : List UInt8) : cntL any s (linesB s).length = (allB any s).length := by unfold cntL allB; rw [List.take_length]
theorem cntL_no {any : Bool} {s : List UInt8} {i : Nat} (h : i < (linesB s).length) (hf : lineF any ((linesB s).getD i []) = []) : cntL any s (i + 1) = cntL any s i := by
  unfold cntL
  rw [List.take_add_one, List.getElem?_eq_getElem h, all_append]
  have e : (linesB s).getD i [] = (linesB s)[i] := by simp [List.getD, h]
  rw [e] at hf
  simp [allFrom, hf]
theorem cntL_yes {any : Bool} {s : List UInt8} {i : Nat} (h : i < (linesB s).length) (hf : lineF any ((linesB s).getD i []) ≠ []) : cntL any s (i + 1) = cntL any s i + 1 ∧ cntL any s i < (allB any s).length ∧ (allB any s)[cntL any s i]? = some (i + 1, lineF any ((linesB s).getD i [])) := by
  have e : (linesB s).getD i [] = (linesB s)[i] := by simp [List.getD, h]
  rw [e] at hf ⊢
  have h1 : cntL any s (i + 1) = cntL any s i + 1 := by
    unfold cntL
    rw [List.take_add_one, List.getElem?_eq_getElem h, all_append]
    simp [allFrom, hf]
  have h2 : allB any s = allFrom any 1 ((linesB s).take i) ++ ((i + 1, lineF any (linesB s)[i]) :: allFrom any (1 + i + 1) ((linesB s).drop (i + 1))) := by
    unfold allB
    conv => lhs; rw [← List.take_append_drop i (linesB s), all_append, List.drop_eq_getElem_cons h, allFrom, if_neg hf]
    rw [List.length_take, Nat.min_eq_left (Nat.le_of_lt h), Nat.add_comm 1 i]
    rfl
  refine ⟨h1, ?_, ?_⟩
  · rw [h2]; simp [cntL]
  · rw [h2, List.getElem?_append_right (by unfold cntL; exact Nat.le_refl _)]
    unfold cntL
    simp
/-- What the iterator hands over. -/
def AllE (any : Bool) (s : List UInt8) : Nat → (Nat → Prop) → World → List Value → Prop := fun k p W args => ∃ (n : Nat) (fs : List (List UInt8)) (v : Value), (allB any s)[k]? = some (n, fs) ∧ args = [.int .i64 (n : Int), v] ∧ NameAt W v fs ∧ OffP p v ∧ ∀ a m c, v = .slice a m c → m ≤ c
theorem AllE.hands (any : Bool) (s : List UInt8) : Hands (AllE any s) := ⟨fun ⟨n, fs, v, h1, h2, h3, h4⟩ hg hr => ⟨n, fs, v, h1, h2, Sl.turned h3 hg hr, h4⟩, fun ⟨n, fs, v, h1, h2, h3, h4⟩ hq => ⟨n, fs, v, h1, h2, h3, h4.1.sub hq, h4.2⟩⟩
theorem LineE.hands (s : List UInt8) : Hands (LineE s) := ⟨fun h _ _ => h, fun h _ => h⟩

theorem fld_len : ∀ (r wd : List UInt8), (fldA wd r).length ≤ r.length + 1
  | [], wd => by unfold fldA; split <;> simp
  | b :: r, wd => by
    have h1 := fld_len r []
    have h2 := fld_len r (wd ++ [b])
    unfold fldA
    split
    · split <;> simp <;> omega
    · simp; omega
theorem allF_len (any : Bool) (l : List UInt8) : (lineF any l).length ≤ 1001 := by
  unfold lineF
  split
  · simp
  · rename_i h
    have ht : (trimCR l).length ≤ 1000 := by
      rcases Nat.lt_or_ge 1000 (trimCR l).length with h1 | h1
      · exact absurd (.inr h1) h
      · exact h1
    split
    · have h1 := fld_len (cutB 35 (trimCR l)).1 []
      have h2 := (cutB_len 35 (trimCR l)).1
      unfold fieldsB; omega
    · split
      · simp
      · have h1 := fld_len (trimCR l) []
        unfold fieldsB; omega
theorem all_flds (any : Bool) : ∀ (ls : List (List UInt8)) (n : Nat), ∀ y ∈ allFrom any n ls, y.2.length ≤ 1000000
  | [], n, y, h => by cases h
  | l :: ls, n, y, h => by
    rcases List.mem_append.1 h with h | h
    · have := allF_len any l
      split at h
      · cases h
      · rw [List.mem_singleton.1 h]; simp only; omega
    · exact all_flds any ls (n + 1) y h
theorem all_num (any : Bool) : ∀ (ls : List (List UInt8)) (n : Nat), ∀ y ∈ allFrom any n ls, y.1 ≤ n + ls.length
  | [], n, y, h => by cases h
  | l :: ls, n, y, h => by
    rcases List.mem_append.1 h with h | h
    · split at h
      · cases h
      · rw [List.mem_singleton.1 h]; simp only; omega
    · have := all_num any ls (n + 1) y h
      simp only [List.length_cons]; omega
theorem fld_short : ∀ (r wd : List UInt8), ∀ x ∈ fldA wd r, x.length ≤ wd.length + r.length
  | [], wd, x, h => by
    unfold fldA at h
    split at h
    · cases h
    · rw [List.mem_singleton.1 h]; simp
  | b :: r, wd, x, h => by
    unfold fldA at h
    split at h
    · split at h
      · have := fld_short r [] x h; simp at this ⊢; omega
      · rcases List.mem_cons.1 h with rfl | h
        · simp
        · have := fld_short r [] x h; simp at this ⊢; omega
    · have := fld_short r (wd ++ [b]) x h
      simp at this ⊢; omega
theorem lineF_short (any : Bool) (l : List UInt8) : ∀ x ∈ lineF any l, x.length ≤ 1000000 := by
  intro x hx
  unfold lineF at hx
  split at hx
  · cases hx
  · rename_i h
    have ht : (trimCR l).length ≤ 1000 := by
      rcases Nat.lt_or_ge 1000 (trimCR l).length with h1 | h1
      · exact absurd (.inr h1) h
      · exact h1
    split at hx
    · have h1 := fld_short (cutB 35 (trimCR l)).1 [] x hx
      have h2 := (cutB_len 35 (trimCR l)).1
      simp at h1; omega
    · split at hx
      · cases hx
      · have h1 := fld_short (trimCR l) [] x hx
        simp at h1; omega
theorem all_shortF (any : Bool) : ∀ (ls : List (List UInt8)) (n : Nat), ∀ y ∈ allFrom any n ls, ∀ l ∈ y.2, l.length ≤ 1000000
  | [], n, y, h => by cases h
  | l :: ls, n, y, h => by
    rcases List.mem_append.1 h with h | h
    · split at h
      · cases h
      · rw [List.mem_singleton.1 h]; exact lineF_short any l
    · exact all_shortF any ls (n + 1) y h
theorem all_short (any : Bool) (s : List UInt8) : ∀ y ∈ allB any s, ∀ l ∈ y.2, l.length ≤ 1000000 := all_shortF any (linesB s) 1
theorem linesf_any (s : List UInt8) (w : World) : Ret Try.prog 30 #[.string ⟨s.toArray⟩] w fun v w' => ∃ b, v = .func (.func 38) #[] #[.pointer (some ⟨b, 0, none⟩)] ∧ Bx w' b [.string ⟨s.toArray⟩] ∧ w.heap.size ≤ b ∧ Ext w w' := by
  have hE0 := Ext.refl w
  refine Ret.body Try.func30 rfl Try.ntmps30 rfl ?_
  refine Cd.seq ?_
  refine Cd.region ?_
  refine Seg.box rfl rfl rfl (fun w3 b3 hE3 hB3 hb3 => ?_)
  have hlt3_0 := Nat.le_trans hE0.size hb3
  replace hE0 := Ext.trans hE0 hE3
  refine Seg.step rfl rfl (Yd.assign rfl) ?_
  refine Seg.nil ?_
  refine At.then_ ?_
  refine Cd.seq ?_
  refine Cd.region ?_
  refine Seg.step rfl rfl (Yd.makeFunc rfl rfl) ?_
  refine Seg.step rfl rfl (Yd.assign rfl) ?_
  refine Seg.nil ?_
  refine At.then_ ?_
  refine Cd.ret ?_
  exact At.ret Try.results30 (.tmp rfl .nil) ⟨_, rfl, by assumption, by assumption, by assumption⟩
theorem allf_any (s : List UInt8) (any : Bool) (w : World) : Ret Try.prog 18 #[.string ⟨s.toArray⟩, .bool any] w fun v w' => ∃ b c, v = .func (.func 29) #[] #[.pointer (some ⟨b, 0, none⟩), .pointer (some ⟨c, 0, none⟩)] ∧ Bx w' b [.string ⟨s.toArray⟩] ∧ Bx w' c [.bool any] ∧ w.heap.size ≤ b ∧ w.heap.size ≤ c ∧ Ext w w' := by
  have hE0 := Ext.refl w
  refine Ret.body Try.func18 rfl Try.ntmps18 rfl ?_
  refine Cd.seq ?_
  refine Cd.region ?_
  refine Seg.box rfl rfl rfl (fun w3 b3 hE3 hB3 hb3 => ?_)
  have hlt3_0 := Nat.le_trans hE0.size hb3
  replace hE0 := Ext.trans hE0 hE3
  refine Seg.box rfl rfl rfl (fun w4 b4 hE4 hB4 hb4 => ?_)
  have hlt4_0 := Nat.le_trans hE3.size hb4
  have hlt4_1 := Nat.lt_of_lt_of_le hB3.lt hb4
  have hlt4_2 := Nat.le_trans hE0.size hb4
  replace hE3 := Ext.trans hE3 hE4
  replace hB3 := hB3.ext hE4
  replace hE0 := Ext.trans hE0 hE4
  refine Seg.step rfl rfl (Yd.assign rfl) ?_
  refine Seg.nil ?_
  refine At.then_ ?_
  refine Cd.seq ?_
  refine Cd.region ?_
  refine Seg.step rfl rfl (Yd.makeFunc rfl rfl) ?_
  refine Seg.step rfl rfl (Yd.assign rfl) ?_
  refine Seg.nil ?_
  refine At.then_ ?_
  refine Cd.ret ?_
  exact At.ret Try.results18 (.tmp rfl .nil) ⟨_, _, rfl, hB3, hB4, by assumption, by assumption, by assumption⟩
theorem all1_any (s : List UInt8) (any : Bool) (b c : Nat) (w : World) (hb : Bx w b [.string ⟨s.toArray⟩]) (hc : Bx w c [.bool any]) (hl : s.length ≤ 1000000) :
    Iter Try.prog 29 [.pointer (some ⟨b, 0, none⟩), .pointer (some ⟨c, 0, none⟩)] [b, c] w (allB any s).length (AllE any s) := by
  intro fn first cap J p W hX hA h0 hrd hY
  have hB0 := hb.ext hX
  have hC0 := hc.ext hX
  have hE0 := Ext.refl W
  have hle := lines_le s
  have hk : Keep (∀ {k p W W'}, J k p W → Ext W W' → J k p W') := hA.ext
  have hp := hA.lt h0
  refine Ret.bodyM Try.func29 rfl Try.ntmps29 rfl ?_
  refine Cd.seq ?_
  refine Cd.region ?_
  refine Seg.box rfl rfl rfl (fun w3 b3 hE3 hB3 hb3 => ?_)
  have hlt3_0 := Nat.le_trans hX.size hb3
  have hlt3_1 := Nat.lt_of_lt_of_le hB0.lt hb3
  have hlt3_2 := Nat.lt_of_lt_of_le hC0.lt hb3
  have hlt3_3 := Nat.le_trans hE0.size hb3
  replace hX := Ext.trans hX hE3
  replace hB0 := hB0.ext hE3
  replace hC0 := hC0.ext hE3
  replace hE0 := Ext.trans hE0 hE3
  refine Seg.nil ?_
  refine At.then_ ?_
  refine Cd.seq ?_
  refine Cd.seq ?_
  refine Cd.region ?_
  refine Seg.step rfl rfl (Yd.load1 rfl rfl hB3.row.head) ?_
  (refine Seg.step rfl rfl (Yd.eqlNilF rfl rfl rfl) ?_)
  refine Seg.nil ?_
  refine At.then_ ?_
  refine Cd.condF rfl ?_
  refine Cd.skip ?_
  refine At.then_ ?_
  refine Cd.seq ?_
  refine Cd.region ?_
  refine Seg.step rfl rfl (Yd.load1 rfl rfl hB0.row.head) ?_
  (refine Seg.call rfl rfl (own_of rfl) rfl (linesf_any s _) ?_; rintro _ w19 ⟨b19, rfl, hB19, hL19, hE19⟩)
  replace hE3 := Ext.trans hE3 hE19
  replace hB3 := hB3.ext hE19
  replace hX := Ext.trans hX hE19
  replace hB0 := hB0.ext hE19
  replace hC0 := hC0.ext hE19
  replace hE0 := Ext.trans hE0 hE19
  refine Seg.nil ?_
  refine At.then_ ?_
  refine Cd.block ?_
  have hpb : ¬ p b3 := fun h => by have := hp _ h; omega
  have hpc : ¬ p c := hrd c (by simp)
  have hWs : W.heap.size ≤ w19.heap.size := hE0.size
  have hc3 : c < w19.heap.size := hC0.lt
  have hb3 : b3 < w19.heap.size := hB3.lt
  have hB3' : Bx w19 b3 [.func fn first cap] := hB3
  refine Cd.inI (Cd.range (ps := [11, 12]) (q0 := p) (fun args => match args with
      | [a1, a2] => [(5, a2), (4, a1), (2, .pointer (some ⟨c, 0, none⟩)), (3, .pointer (some ⟨b3, 0, none⟩))]
      | _ => [])
    (fun i q W' => J (cntL any s i) q W' ∧ Bx W' b3 [.func fn first cap] ∧ Bx W' c [.bool any] ∧ ¬ q b3 ∧ ¬ q c)
    rfl (own_of rfl) (lines1_any s b19 _ hB19 hl) (LineE.hands s) (by rfl) (fun k p W args h => by unfold LineE at h; rw [h]; rfl) ⟨?_, ?_, ?_⟩ ⟨hA.ext h0 hE0, hB3', hC0, hpb, hpc⟩ (fun r h => by cases h) ?_ ?_ ?_)
  · rintro k q W' ⟨h1, _⟩
    exact hA.lt h1
  · rintro k q W1 W2 ⟨h1, h2, h3, h4, h5⟩ hx
    exact ⟨hA.ext h1 hx, h2.ext hx, h3.ext hx, h4, h5⟩
  · rintro k q W1 W2 r o ⟨h1, h2, h3, h4, h5⟩ hg hr hq ho hoc
    have n1 : b3 ≠ r := fun e => by subst e; exact h2.cells ho hoc
    have n2 : c ≠ r := fun e => by subst e; exact h3.cells ho hoc
    exact ⟨hA.put h1 hg (by omega) hq ho hoc, h2.keeps (hg.block _ h2.lt (by simpa using n1)), h3.keeps (hg.block _ h3.lt (by simpa using n2)), h4, h5⟩
  · intro l args W1 Q' hal hAt
    obtain ⟨a1, a2, rfl⟩ : ∃ a1 a2, args = [a1, a2] := by
      rcases args with _ | ⟨a1, _ | ⟨a2, _ | ⟨a3, r⟩⟩⟩ <;> simp at hal
      exact ⟨a1, a2, rfl⟩
    refine CdI.seq (CdI.region (SegI.step rfl rfl rfl (Yd.assign rfl) (SegI.nil (AtI.then_ (CdI.region (SegI.step rfl rfl rfl (Yd.assign rfl) (SegI.nil ?_)))))))
    exact .mk fun a ha => hAt.out a (ha.sub (.cons rfl (.cons rfl (.cons rfl (.cons rfl (.nil _))))))
  · rintro l i q W1 args hi ⟨h1, h2, h3, h4, h5⟩ rfl
    have hlen := lines_len s ((linesB s).getD i []) (by
      have : (linesB s).getD i [] = (linesB s)[i] := by simp [List.getD, hi]
      rw [this]; exact List.getElem_mem hi)
    refine CdI.block (CdI.seq (CdI.region ?_))
    refine SegI.step rfl rfl rfl (Yd.move rfl) ?_
    refine SegI.step rfl rfl rfl (Yd.load1 rfl rfl h3.row.head) ?_
    refine SegI.call rfl rfl (own_of rfl) rfl (lineF_any any ((linesB s).getD i []) _ (by omega)) ?_
    rintro v W2 ⟨⟨hN, hab⟩, hX2⟩
    have hN' := hN
    obtain ⟨ao, cc, rfl, -, -, -⟩ := hN'
    refine SegI.step rfl rfl rfl (Yd.assign rfl) (SegI.nil (AtI.then_ (CdI.seq (CdI.region ?_))))
    refine SegI.step rfl rfl rfl (Yd.move rfl) ?_
    refine SegI.step rfl rfl rfl (Yd.lenS rfl rfl) ?_
    refine SegI.step rfl rfl rfl (Yd.gtr rfl rfl) ?_
    refine SegI.step rfl rfl rfl (Yd.move rfl) ?_
    refine SegI.gsplitp rfl rfl (fun hg => ?_) (fun hg => ?_)
    · have hne : lineF any ((linesB s).getD i []) ≠ [] := fun e => by rw [e] at hg; simp at hg
      obtain ⟨c1, c2, c3⟩ := cntL_yes hi hne
      refine SegI.step rfl rfl rfl (Yd.load1 rfl rfl (h2.ext hX2).row.head) ?_
      refine SegI.step rfl rfl rfl (Yd.move rfl) ?_
      refine SegI.step rfl rfl rfl (Yd.move rfl) ?_
      refine SegI.vcall rfl rfl rfl rfl (hY (cntL any s i) q _ _ c2 (hA.ext h1 hX2) ⟨i + 1, _, _, c3, rfl, hN, OffP.above hab.1 (hA.lt h1), hab.2⟩) ?_
      rintro _ W3 ⟨rfl, q', hJ', hkp⟩
      refine SegI.step rfl rfl rfl (Yd.not rfl) ?_
      refine SegI.step rfl rfl rfl (Yd.pickT rfl rfl) (SegI.nil (AtI.then_ (CdI.condF rfl (CdI.skip (AtI.blk ?_)))))
      have hlt2 := (h2.ext hX2).lt
      have hlt3 := (h3.ext hX2).lt
      refine .mk fun a ha => ⟨rfl, q', ⟨by rw [c1]; exact hJ', (h2.ext hX2).keeps (hkp.block _ hlt2 h4), (h3.ext hX2).keeps (hkp.block _ hlt3 h5), fun h => ?_, fun h => ?_⟩, Kept.trans_ext hX2 hkp⟩
      · rcases hkp.own _ h with h | h
        · exact h4 h
        · omega
      · rcases hkp.own _ h with h | h
        · exact h5 h
        · omega
    · have he : lineF any ((linesB s).getD i []) = [] := List.eq_nil_of_length_eq_zero (by omega)
      have c1 := cntL_no hi he
      refine SegI.skip rfl rfl (SegI.skip rfl rfl (SegI.skip rfl rfl (SegI.skip rfl rfl (SegI.skip rfl rfl ?_))))
      refine SegI.step rfl rfl rfl (Yd.pickF rfl rfl) (SegI.nil (AtI.then_ (CdI.condF rfl (CdI.skip (AtI.blk ?_)))))
      exact .mk fun a ha => ⟨rfl, q, ⟨by rw [c1]; exact hA.ext h1 hX2, h2.ext hX2, h3.ext hX2, h4, h5⟩, Kept.ext hX2⟩
  · rintro D q W1 ⟨h1, -⟩ hq hK hD
    refine AtI.blk (AtI.finD Try.results29 hK .nil ⟨q, ?_⟩)
    rw [cntL_all] at h1
    exact hA.put h1 grown_put (by omega) hq hK rfl
end Go.Proofs.Ytbmgigbedmgfpaa
