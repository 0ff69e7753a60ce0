/- The lines of a text, as the iterator tells them. -/
import Derived.Test.YtbmgigbedmgfpaaLin
namespace Go.Proofs.Ytbmgigbedmgfpaa
open Go Go.RowKit
/-- A text's lines. -/
def linesB : List UInt8 → List (List UInt8)
  | [] => [[]]
  | x :: r => if x = 10 then [] :: linesB r else ((x :: (linesB r).headD []) :: (linesB r).tail)
theorem lines_cut : ∀ s : List UInt8, linesB s = if (cutB 10 s).2.2 = true then (cutB 10 s).1 :: linesB (cutB 10 s).2.1 else [(cutB 10 s).1]
  | [] => rfl
  | x :: r => by
    by_cases hx : x = 10
    · simp [linesB, cutB, hx]
    · have ih := lines_cut r
      rw [linesB, if_neg hx, ih, cutB, if_neg hx]
      by_cases h : (cutB 10 r).2.2 = true
      · rw [if_pos h]; simp [h]
      · rw [if_neg h]; simp [h]
theorem lines_pos (s : List UInt8) : 0 < (linesB s).length := by
  rw [lines_cut]; split <;> simp
theorem lines_le : ∀ s : List UInt8, (linesB s).length ≤ s.length + 1
  | [] => by simp [linesB]
  | x :: r => by
    have := lines_le r
    have h := lines_pos r
    unfold linesB
    split <;> simp <;> omega
theorem lines_len : ∀ s : List UInt8, ∀ l ∈ linesB s, l.length ≤ s.length
  | [], l, h => by simp [linesB] at h; simp [h]
  | x :: r, l, h => by
    have ih := lines_len r
    unfold linesB at h
    split at h
    · rcases List.mem_cons.1 h with rfl | h
      · simp
      · have := ih l h; simp; omega
    · have hp := lines_pos r
      rcases List.mem_cons.1 h with rfl | h
      · cases hr : linesB r with
        | nil => rw [hr] at hp; simp at hp
        | cons a bs => have := ih a (by rw [hr]; simp); simp [hr]; omega
      · have := ih l (List.mem_of_mem_tail h); simp; omega
/-- The k-th line, and what stands behind it. -/
theorem lines_step {s rest : List UInt8} {k : Nat} (h : (linesB s).drop k = linesB rest) : k < (linesB s).length ∧ (linesB s).getD k [] = (cutB 10 rest).1 ∧
    ((cutB 10 rest).2.2 = true → (linesB s).drop (k + 1) = linesB (cutB 10 rest).2.1) ∧ ((cutB 10 rest).2.2 = false → k + 1 = (linesB s).length) := by
  have hlt : k < (linesB s).length := by
    have := lines_pos rest
    rw [← h, List.length_drop] at this
    omega
  have hd := List.drop_eq_getElem_cons hlt
  rw [h, lines_cut rest] at hd
  refine ⟨hlt, ?_, fun hc => ?_, fun hc => ?_⟩
  · split at hd
    · have := (List.cons.inj hd).1; simp [List.getD, hlt, this]
    · have := (List.cons.inj hd).1; simp [List.getD, hlt, this]
  · rw [if_pos hc] at hd; exact (List.cons.inj hd).2.symm
  · rw [if_neg (by simp [hc])] at hd
    have := congrArg List.length (List.cons.inj hd).2
    simp at this; omega
/-- What the iterator over lines hands over. -/
def LineE (s : List UInt8) : Nat → (Nat → Prop) → World → List Value → Prop := fun k _ _ args => args = [.int .i64 ((k + 1 : Nat) : Int), .string ⟨((linesB s).getD k []).toArray⟩]
theorem lines1_any (s : List UInt8) (b : Nat) (w : World) (hb : Bx w b [.string ⟨s.toArray⟩]) (hl : s.length ≤ 1000000) : Iter Try.prog 38 [.pointer (some ⟨b, 0, none⟩)] [] w (linesB s).length (LineE s) := by
  intro fn first cap J p W hX hA h0 _ hY
  have hB0 := hb.ext hX
  have hE0 := Ext.refl W
  have hle := lines_le s
  have hk : Keep (∀ {k p W W'}, J k p W → Ext W W' → J k p W') := hA.ext
  refine Ret.body Try.func38 rfl Try.ntmps38 rfl ?_
  refine Cd.seq ?_
  refine Cd.region ?_
  refine Seg.step rfl rfl (Yd.load1 rfl rfl hB0.row.head) ?_
  refine Seg.step rfl rfl (Yd.assign rfl) ?_
  refine Seg.step rfl rfl (Yd.assign rfl) ?_
  refine Seg.nil ?_
  refine At.then_ ?_
  refine Cd.seq ?_
  refine Cd.region ?_
  refine Seg.step rfl rfl (Yd.assign rfl) ?_
  refine Seg.nil ?_
  refine At.then_ ?_
  refine Cd.block ?_
  refine Cd.loop (σ := Nat × List UInt8 × Bool) (fun s' => [(0, .func fn first cap), (3, .string ⟨s'.2.1.toArray⟩), (4, .bool s'.2.2), (5, .int .i64 ((s'.1 + 1 : Nat) : Int))])
    (fun s' w' => (∃ p, J s'.1 p w') ∧ s'.2.1.length ≤ 1000000 ∧ (s'.2.2 = true → (linesB s).drop s'.1 = linesB s'.2.1) ∧ (s'.2.2 = false → s'.1 = (linesB s).length)) (fun s' => (linesB s).length + (if s'.2.2 then 1 else 0) - s'.1) (0, s, true) (.cons rfl (.cons rfl (.cons rfl (.cons rfl (.nil _)))))
    ⟨⟨p, h0⟩, hl, fun _ => rfl, fun h => by cases h⟩ ?_
  clear h0 hB0 hE0 hb hX
  rintro ⟨k, rest, more⟩ w0 ⟨⟨p, hJ⟩, hr, hm, hn⟩
  simp only at hr hm hn hJ ⊢
  cases more with
  | true =>
    obtain ⟨hlt, hg, h1, h2⟩ := lines_step (hm rfl)
    have hc := cutB_len 10 rest
    have hE0 := Ext.refl w0
    refine Cd.seq ?_
    refine Cd.seq ?_
    refine Cd.region ?_
    refine Seg.step rfl rfl (Yd.move rfl) ?_
    refine Seg.nil ?_
    refine At.then_ ?_
    refine Cd.condT rfl ?_
    refine Cd.skip ?_
    refine At.then_ ?_
    refine Cd.seq ?_
    refine Cd.block ?_
    refine Cd.seq ?_
    refine Cd.region ?_
    refine Seg.step rfl rfl (Yd.assign rfl) ?_
    refine Seg.nil ?_
    refine At.then_ ?_
    refine Cd.seq ?_
    refine Cd.region ?_
    refine Seg.step rfl rfl (Yd.move rfl) ?_
    (refine Seg.call rfl rfl (own_of rfl) rfl (cut_any rest 10 _ hr) ?_; rintro _ w22 ⟨rfl, hE22⟩)
    replace hE0 := Ext.trans hE0 hE22
    refine Seg.step rfl rfl (Yd.move rfl) ?_
    refine Seg.step rfl rfl (Yd.extract rfl rfl) ?_
    refine Seg.step rfl rfl (Yd.extract rfl rfl) ?_
    refine Seg.step rfl rfl (Yd.extract rfl rfl) ?_
    refine Seg.step rfl rfl (Yd.assign rfl) ?_
    refine Seg.step rfl rfl (Yd.assign rfl) ?_
    refine Seg.step rfl rfl (Yd.assign rfl) ?_
    refine Seg.nil ?_
    refine At.then_ ?_
    refine Cd.seq ?_
    refine Cd.regionI ?_
    refine SegI.step rfl rfl rfl (Yd.move rfl) ?_
    refine SegI.step rfl rfl rfl (Yd.move rfl) ?_
    refine SegI.step rfl rfl rfl (Yd.move rfl) ?_
    refine SegI.vcall rfl rfl rfl rfl (hY k p _ [.int .i64 ((k + 1 : Nat) : Int), .string ⟨(cutB 10 rest).1.toArray⟩] hlt (hA.ext hJ hE0) (by unfold LineE; rw [hg])) ?_
    rintro _ w90 ⟨rfl, p', hJ', hkp⟩
    refine SegI.step rfl rfl rfl (Yd.not rfl) ?_
    refine SegI.nil (AtI.of ?_)
    clear hE0
    have hE0 := Ext.refl w90
    have hkb : ((k + 1 : Nat) : Int) = (k : Int) + 1 := by omega
    have hi : -9223372036854775808 ≤ ((k + 1 : Nat) : Int) + 1 ∧ ((k + 1 : Nat) : Int) + 1 ≤ 9223372036854775807 := by omega
    have hb : (cutB 10 rest).2.2 = true → (linesB s).length + (if (cutB 10 rest).2.2 = true then 1 else 0) - (k + 1) < (linesB s).length + (if true = true then 1 else 0) - k := fun h => by rw [if_pos h, if_pos rfl]; omega
    have hb' : (linesB s).length + (if (cutB 10 rest).2.2 = true then 1 else 0) - (k + 1) < (linesB s).length + (if true = true then 1 else 0) - k := by
      rw [if_pos rfl]; split <;> omega
    refine At.then_ ?_
    refine Cd.condF rfl ?_
    refine Cd.skip ?_
    refine At.blk ?_
    refine At.then_ ?_
    refine Cd.region ?_
    refine Seg.step rfl rfl (Yd.move rfl) ?_
    refine Seg.step rfl rfl (Yd.addI rfl rfl (by omega)) ?_
    refine Seg.step rfl rfl (Yd.assign rfl) ?_
    refine Seg.nil ?_
    exact At.round (k + 1, (cutB 10 rest).2.1, (cutB 10 rest).2.2) (.cons rfl (.cons rfl (.cons rfl (.cons rfl (.nil _))))) ⟨⟨p', hA.ext hJ' hE0⟩, Nat.le_trans hc.2 hr, h1, h2⟩ hb'
  | false =>
    have hE0 := Ext.refl w0
    obtain rfl := hn rfl
    refine Cd.seq ?_
    refine Cd.seq ?_
    refine Cd.region ?_
    refine Seg.step rfl rfl (Yd.move rfl) ?_
    refine Seg.nil ?_
    refine At.then_ ?_
    refine Cd.condF rfl ?_
    refine Cd.exit ?_
    refine At.then_exit ?_
    refine At.then_exit ?_
    refine At.blk_same ?_
    exact At.fin Try.results38 .nil ⟨p, hA.ext hJ hE0⟩
end Go.Proofs.Ytbmgigbedmgfpaa
