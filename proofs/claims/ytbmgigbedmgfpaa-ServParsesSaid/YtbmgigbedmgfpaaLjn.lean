/- The law of joined texts. -/
import Derived.Test.YtbmgigbedmgfpaaWks16
namespace Go.Proofs.Ytbmgigbedmgfpaa
open Go Go.RowKit
theorem lines_join (b : List UInt8) : ∀ a : List UInt8, linesB (a ++ 10 :: b) = linesB a ++ linesB b
  | [] => by simp [linesB]
  | x :: r => by
    have ih := lines_join b r
    have hp := lines_pos r
    by_cases hx : x = 10
    · simp [linesB, hx, ih]
    · rw [List.cons_append, linesB, if_neg hx, linesB, if_neg hx, ih]
      cases hr : linesB r with
      | nil => rw [hr] at hp; simp at hp
      | cons l ls => simp
theorem lines_count : ∀ a : List UInt8, (linesB a).length = 1 + a.count 10
  | [] => rfl
  | x :: r => by
    have ih := lines_count r
    have hp := lines_pos r
    by_cases hx : x = 10
    · simp [linesB, hx, ih]; omega
    · rw [linesB, if_neg hx, List.length_cons, List.length_tail, List.count_cons, ih]
      simp [hx]; omega
def shift (n : Nat) (y : Nat × List (List UInt8)) : Nat × List (List UInt8) := (y.1 + n, y.2)
theorem all_shift (any : Bool) (k : Nat) : ∀ (ls : List (List UInt8)) (n : Nat), allFrom any (n + k) ls = (allFrom any n ls).map (shift k)
  | [], n => rfl
  | l :: ls, n => by
    have ih := all_shift any k ls (n + 1)
    rw [allFrom, allFrom, List.map_append, ← ih, show n + k + 1 = n + 1 + k by omega]
    congr 1
    split <;> simp [shift]
theorem all_join (any : Bool) (a b : List UInt8) : allB any (a ++ 10 :: b) = allB any a ++ (allB any b).map (shift (1 + a.count 10)) := by
  unfold allB
  rw [lines_join, all_append, all_shift, lines_count]
theorem all_len (any : Bool) (s : List UInt8) : (allB any s).length ≤ s.length + 1 := Nat.le_trans (all_le any _ 1) (lines_le s)
theorem ten_at {a : List UInt8} {i : Nat} (h : i < a.length) : (a.take (i + 1)).count 10 = (a.take i).count 10 + (if a.getD i 0 = 10 then 1 else 0) := by
  rw [List.take_add_one, List.getElem?_eq_getElem h, List.count_append]
  simp [List.getD, h, List.count_singleton]
theorem own_snoc {w : World} {base e : Nat} {v : Value} {X : List Ln} {x : Ln} (h : w.ownsRow base e (1 + 1) v (X.length + 1) (X.flatMap lnV ++ lnV x)) : w.ownsRow base e 2 v (X ++ [x]).length ((X ++ [x]).flatMap lnV) := by
  have e1 : (X ++ [x]).length = X.length + 1 := by simp
  have e2 : (X ++ [x]).flatMap lnV = X.flatMap lnV ++ lnV x := by simp
  rw [e1, e2]; exact h
theorem law_join (a b : List UInt8) (any : Bool) (w : World) (hab : a.length + b.length ≤ 4611686018427387904) :
    Ret Try.prog 3 #[.string ⟨a.toArray⟩, .string ⟨b.toArray⟩, .bool any] w fun r w' => r = .bool true ∧ Ext w w' := by
  have hE0 := Ext.refl w
  refine Ret.body Try.func3 rfl Try.ntmps3 rfl ?_
  by_cases hl : a.length + b.length ≤ 5000
  · have la := all_len any a
    have lb := all_len any b
    have lz := all_len any (a ++ [10] ++ b)
    have lzz : (a ++ [10] ++ b).length = a.length + b.length + 1 := by simp; omega
    have lz1 : a.length + ([10] : List UInt8).length ≤ 9223372036854775807 := by simp; omega
    have lz2 : (a ++ [10]).length + b.length ≤ 9223372036854775807 := by simp; omega
    refine Cd.seq ?_
    refine Cd.region ?_
    refine Seg.step rfl rfl (Yd.assign rfl) ?_
    refine Seg.nil ?_
    refine At.then_ ?_
    refine Cd.seq ?_
    refine Cd.seq ?_
    refine Cd.region ?_
    (refine Seg.call rfl rfl (own_of rfl) rfl (works16 _) ?_; rintro _ w9 ⟨rfl, hE9⟩; have hEw : Keep (Ext w w9) := hE9)
    replace hE0 := Ext.trans hE0 hE9
    refine Seg.step rfl rfl (Yd.not rfl) ?_
    refine Seg.step rfl rfl (Yd.move rfl) ?_
    refine Seg.step rfl rfl (Yd.move rfl) ?_
    refine Seg.step rfl rfl (Yd.lenStr rfl rfl) ?_
    refine Seg.step rfl rfl (Yd.move rfl) ?_
    refine Seg.step rfl rfl (Yd.lenStr rfl rfl) ?_
    refine Seg.step rfl rfl (Yd.addI rfl rfl (by omega)) ?_
    refine Seg.step rfl rfl (Yd.gtr rfl rfl) ?_
    refine Seg.step rfl rfl (Yd.pickF rfl rfl) ?_
    refine Seg.nil ?_
    refine At.then_ ?_
    refine Cd.condk rfl (fun h21 => ?_) (fun h21 => ?_)
    · exfalso; omega
    refine Cd.skip ?_
    refine At.then_ ?_
    refine Cd.seq ?_
    refine Cd.region ?_
    refine Seg.step rfl rfl (Yd.move rfl) ?_
    refine Seg.step rfl rfl (Yd.move rfl) ?_
    (refine Seg.call rfl rfl (own_of rfl) rfl (told_any a any 6000 _ (by omega) (by omega)) ?_; rintro _ w29 ⟨⟨X, vx, rfl, hOx, hLx, hX⟩, hE29⟩)
    replace hE9 := Ext.trans hE9 hE29
    replace hE0 := Ext.trans hE0 hE29
    refine Seg.step rfl rfl (Yd.move rfl) ?_
    refine Seg.step rfl rfl (Yd.extract rfl rfl) ?_
    refine Seg.step rfl rfl (Yd.extract rfl rfl) ?_
    refine Seg.step rfl rfl (Yd.assign rfl) ?_
    refine Seg.step rfl rfl (Yd.assign rfl) ?_
    refine Seg.nil ?_
    refine At.then_ ?_
    refine Cd.seq ?_
    refine Cd.region ?_
    refine Seg.step rfl rfl (Yd.move rfl) ?_
    refine Seg.step rfl rfl (Yd.move rfl) ?_
    (have hS1 := hOx.lt; refine Seg.call rfl rfl (own_of rfl) rfl (told_any b any 6000 _ (by omega) (by omega)) ?_; rintro _ w41 ⟨⟨Y, vy, rfl, hOy, hLy, hY⟩, hE41⟩)
    replace hE29 := Ext.trans hE29 hE41
    replace hOx := own_ext hOx hE41
    replace hLx := hLx.ext hE41
    replace hE9 := Ext.trans hE9 hE41
    replace hE0 := Ext.trans hE0 hE41
    refine Seg.step rfl rfl (Yd.move rfl) ?_
    refine Seg.step rfl rfl (Yd.extract rfl rfl) ?_
    refine Seg.step rfl rfl (Yd.extract rfl rfl) ?_
    refine Seg.step rfl rfl (Yd.assign rfl) ?_
    refine Seg.step rfl rfl (Yd.assign rfl) ?_
    refine Seg.nil ?_
    refine At.then_ ?_
    refine Cd.seq ?_
    refine Cd.region ?_
    refine Seg.step rfl rfl (Yd.move rfl) ?_
    (refine Seg.step rfl rfl (Yd.addS (l := a) (m := [10]) rfl rfl lz1) ?_)
    refine Seg.step rfl rfl (Yd.move rfl) ?_
    (refine Seg.step rfl rfl (Yd.addS (l := a ++ [10]) (m := b) rfl rfl lz2) ?_)
    refine Seg.step rfl rfl (Yd.move rfl) ?_
    (have hS2 := hOx.lt; refine Seg.call rfl rfl (own_of rfl) rfl (told_any (a ++ [10] ++ b) any 6000 _ (by omega) (by omega)) ?_; rintro _ w56 ⟨⟨Z, vz, rfl, hOz, hLz, hZ⟩, hE56⟩)
    replace hE41 := Ext.trans hE41 hE56
    replace hOy := own_ext hOy hE56
    replace hLy := hLy.ext hE56
    replace hE29 := Ext.trans hE29 hE56
    replace hOx := own_ext hOx hE56
    replace hLx := hLx.ext hE56
    replace hE9 := Ext.trans hE9 hE56
    replace hE0 := Ext.trans hE0 hE56
    refine Seg.step rfl rfl (Yd.move rfl) ?_
    refine Seg.step rfl rfl (Yd.extract rfl rfl) ?_
    refine Seg.step rfl rfl (Yd.extract rfl rfl) ?_
    refine Seg.step rfl rfl (Yd.assign rfl) ?_
    refine Seg.step rfl rfl (Yd.assign rfl) ?_
    refine Seg.nil ?_
    refine At.then_ ?_
    refine Cd.seq ?_
    refine Cd.region ?_
    refine Seg.step rfl rfl (Yd.assign rfl) ?_
    refine Seg.nil ?_
    refine At.then_ ?_
    refine Cd.seq ?_
    refine Cd.seq ?_
    refine Cd.region ?_
    refine Seg.step rfl rfl (Yd.assign rfl) ?_
    refine Seg.nil ?_
    refine At.then_ ?_
    refine Cd.block ?_
    obtain ⟨ax, cx, rfl⟩ := own_shape hOx
    obtain ⟨ay, cy, rfl⟩ := own_shape hOy
    obtain ⟨az, cz, rfl⟩ := own_shape hOz
    have kx : Keep (w56.ownsRow w9.heap.size 28 2 (.slice ax X.length cx) X.length (X.flatMap lnV)) := hOx
    have ky : Keep (Sl w56 2 (.slice ay Y.length cy) Y.length (Y.flatMap lnV)) := own_sl hOy
    have kz : Keep (Sl w56 2 (.slice az Z.length cz) Z.length (Z.flatMap lnV)) := own_sl hOz
    have oy : OffP (ownP (.slice ax X.length cx)) (.slice ay Y.length cy) := OffP.above (own_above hOy) (fun r h => (hS1 r h).2)
    have oz : OffP (ownP (.slice ax X.length cx)) (.slice az Z.length cz) := OffP.above (own_above hOz) (fun r h => (hS2 r h).2)
    have kX : Keep (LnsOk (ownP (.slice ax X.length cx)) w56 X) := fun x hx => ⟨(hLx x hx).1, (hLx x hx).2.sub (fun r h => .inl h)⟩
    have kY : Keep (LnsOk (ownP (.slice ax X.length cx)) w56 Y) := fun x hx => ⟨(hLy x hx).1, (hLy x hx).2.sub (fun r h => .inr (hS1 r h).2)⟩
    have kZ : Keep (LnsOk (ownP (.slice ax X.length cx)) w56 Z) := fun x hx => ⟨(hLz x hx).1, (hLz x hx).2.sub (fun r h => .inr (hS2 r h).2)⟩
    have hw9 : Keep (Ext w9 w56) := hE29
    have hw0 : Keep (Ext w w56) := hE0
    have hw : Keep (Ext w w9) := hEw
    clear hOx hOy hOz hLx hLy hLz hS1 hS2 hE9 hE0 hE29 hE41 hE56
    have hE0 := Ext.refl w56
    refine Cd.loop (σ := Nat) (fun i => [(0, .string ⟨a.toArray⟩), (6, .bool false), (7, .slice ax X.length cx), (8, .bool true), (9, .slice ay Y.length cy), (10, .bool true), (11, .slice az Z.length cz), (12, .bool true), (13, .int .i64 ((1 + (a.take i).count 10 : Nat) : Int)), (14, .int .i64 (i : Int))])
      (fun i w' => i ≤ a.length ∧ Ext w56 w') (fun i => a.length - i) 0 (.cons rfl (.cons rfl (.cons rfl (.cons rfl (.cons rfl (.cons rfl (.cons rfl (.cons rfl (.cons rfl (.cons rfl (.nil _))))))))))) ⟨Nat.zero_le _, hE0⟩ ?_
    clear hE0
    rintro i w0 ⟨hi, hE0⟩
    have hc : (a.take i).count 10 ≤ i := Nat.le_trans (List.count_le_length) (by rw [List.length_take]; omega)
    by_cases hlt : i < a.length
    · have ht := ten_at hlt
      by_cases h10 : a.getD i 0 = 10
      · rw [if_pos h10] at ht
        have h10' : ((a.getD i 0).toNat : Int) = 10 := by rw [h10]; rfl
        have ht' : ((1 + (a.take (i + 1)).count 10 : Nat) : Int) = ((1 + (a.take i).count 10 : Nat) : Int) + 1 := by rw [ht]; omega
        refine Cd.seq ?_
        refine Cd.seq ?_
        refine Cd.region ?_
        refine Seg.step rfl rfl (Yd.move rfl) ?_
        refine Seg.step rfl rfl (Yd.move rfl) ?_
        refine Seg.step rfl rfl (Yd.lenStr rfl rfl) ?_
        refine Seg.step rfl rfl (Yd.lss rfl rfl) ?_
        refine Seg.nil ?_
        refine At.then_ ?_
        refine Cd.condk rfl (fun h66 => ?_) (fun h66 => ?_)
        · refine Cd.skip ?_
          refine At.then_ ?_
          refine Cd.seq ?_
          refine Cd.block ?_
          refine Cd.seq ?_
          refine Cd.region ?_
          refine Seg.step rfl rfl (Yd.move rfl) ?_
          refine Seg.step rfl rfl (Yd.move rfl) ?_
          refine Seg.step rfl rfl (Yd.indexStr rfl rfl rfl (NatOf.cast _) (by omega)) ?_
          refine Seg.step rfl rfl (Yd.eql rfl rfl) ?_
          refine Seg.nil ?_
          refine At.then_ ?_
          refine Cd.condk rfl (fun h80 => ?_) (fun h80 => ?_)
          · refine Cd.region ?_
            refine Seg.step rfl rfl (Yd.move rfl) ?_
            refine Seg.step rfl rfl (Yd.addI rfl rfl (by omega)) ?_
            refine Seg.step rfl rfl (Yd.assign rfl) ?_
            refine Seg.nil ?_
            refine At.blk ?_
            refine At.then_ ?_
            refine Cd.region ?_
            refine Seg.step rfl rfl (Yd.move rfl) ?_
            refine Seg.step rfl rfl (Yd.addI rfl rfl (by omega)) ?_
            refine Seg.step rfl rfl (Yd.assign rfl) ?_
            refine Seg.nil ?_
            exact At.round (i + 1) (.cons rfl (.cons rfl (.cons rfl (.cons rfl (.cons rfl (.cons rfl (.cons rfl (.cons rfl (.cons (by rw [ht']; rfl) (.cons rfl (.nil _))))))))))) ⟨hlt, hE0⟩ (Nat.sub_lt_sub_left hlt (Nat.lt_succ_self i))
          · exfalso; omega
        · exfalso; omega
      · rw [if_neg h10] at ht
        have h10' : ¬ ((a.getD i 0).toNat : Int) = 10 := fun h => h10 (u8_ne.1 (by rw [h]; rfl))
        have ht' : ((1 + (a.take (i + 1)).count 10 : Nat) : Int) = ((1 + (a.take i).count 10 : Nat) : Int) := by rw [ht]; omega
        refine Cd.seq ?_
        refine Cd.seq ?_
        refine Cd.region ?_
        refine Seg.step rfl rfl (Yd.move rfl) ?_
        refine Seg.step rfl rfl (Yd.move rfl) ?_
        refine Seg.step rfl rfl (Yd.lenStr rfl rfl) ?_
        refine Seg.step rfl rfl (Yd.lss rfl rfl) ?_
        refine Seg.nil ?_
        refine At.then_ ?_
        refine Cd.condk rfl (fun h66 => ?_) (fun h66 => ?_)
        · refine Cd.skip ?_
          refine At.then_ ?_
          refine Cd.seq ?_
          refine Cd.block ?_
          refine Cd.seq ?_
          refine Cd.region ?_
          refine Seg.step rfl rfl (Yd.move rfl) ?_
          refine Seg.step rfl rfl (Yd.move rfl) ?_
          refine Seg.step rfl rfl (Yd.indexStr rfl rfl rfl (NatOf.cast _) (by omega)) ?_
          refine Seg.step rfl rfl (Yd.eql rfl rfl) ?_
          refine Seg.nil ?_
          refine At.then_ ?_
          refine Cd.condk rfl (fun h80 => ?_) (fun h80 => ?_)
          · exfalso; omega
          · refine Cd.skip ?_
            refine At.blk ?_
            refine At.then_ ?_
            refine Cd.region ?_
            refine Seg.step rfl rfl (Yd.move rfl) ?_
            refine Seg.step rfl rfl (Yd.addI rfl rfl (by omega)) ?_
            refine Seg.step rfl rfl (Yd.assign rfl) ?_
            refine Seg.nil ?_
            exact At.round (i + 1) (.cons rfl (.cons rfl (.cons rfl (.cons rfl (.cons rfl (.cons rfl (.cons rfl (.cons rfl (.cons (by rw [ht']; rfl) (.cons rfl (.nil _))))))))))) ⟨hlt, hE0⟩ (Nat.sub_lt_sub_left hlt (Nat.lt_succ_self i))
        · exfalso; omega
    · have hia : a.take i = a := List.take_of_length_le (by omega)
      rw [hia] at hc ⊢
      refine Cd.seq ?_
      refine Cd.seq ?_
      refine Cd.region ?_
      refine Seg.step rfl rfl (Yd.move rfl) ?_
      refine Seg.step rfl rfl (Yd.move rfl) ?_
      refine Seg.step rfl rfl (Yd.lenStr rfl rfl) ?_
      refine Seg.step rfl rfl (Yd.lss rfl rfl) ?_
      refine Seg.nil ?_
      refine At.then_ ?_
      refine Cd.condk rfl (fun h66 => ?_) (fun h66 => ?_)
      · exfalso; omega
      refine Cd.exit ?_
      refine At.then_exit ?_
      refine At.then_exit ?_
      refine At.blk_same ?_
      refine At.then_ ?_
      refine Cd.seq ?_
      refine Cd.seq ?_
      refine Cd.region ?_
      refine Seg.step rfl rfl (Yd.assign rfl) ?_
      refine Seg.nil ?_
      refine At.then_ ?_
      refine Cd.block ?_
      have hw' : Ext w9 w0 := Ext.trans hw9 hE0
      have hwa : Ext w w0 := Ext.trans hw0 hE0
      have hXl : X.length ≤ 5001 := by have := congrArg List.length hX; simp at this; omega
      have hYl : Y.length ≤ 5001 := by have := congrArg List.length hY; simp at this; omega
      refine Cd.loop (σ := List Ln × Value × Nat) (fun s => [(6, .bool false), (7, s.2.1), (8, .bool true), (9, .slice ay Y.length cy), (10, .bool true), (11, .slice az Z.length cz), (12, .bool true), (13, .int .i64 ((1 + a.count 10 : Nat) : Int)), (15, .int .i64 (s.2.2 : Int))])
        (fun s w' => (s.2.2 ≤ Y.length ∧ s.1.length = X.length + s.2.2 ∧ s.1.map lnD = X.map lnD ++ ((Y.map lnD).take s.2.2).map (shift (1 + a.count 10))) ∧ w'.ownsRow w9.heap.size 28 2 s.2.1 s.1.length (s.1.flatMap lnV) ∧ LnsOk (ownP s.2.1) w' s.1 ∧
          (Sl w' 2 (.slice ay Y.length cy) Y.length (Y.flatMap lnV) ∧ OffP (ownP s.2.1) (.slice ay Y.length cy) ∧ LnsOk (ownP s.2.1) w' Y) ∧
          (Sl w' 2 (.slice az Z.length cz) Z.length (Z.flatMap lnV) ∧ OffP (ownP s.2.1) (.slice az Z.length cz) ∧ LnsOk (ownP s.2.1) w' Z) ∧ Ext w9 w') (fun s => Y.length - s.2.2) (X, .slice ax X.length cx, 0) (.cons rfl (.cons rfl (.cons rfl (.cons rfl (.cons rfl (.cons rfl (.cons rfl (.cons rfl (.cons rfl (.nil _))))))))))
        ⟨⟨Nat.zero_le _, rfl, by simp⟩, own_ext kx hE0, LnsOk.ext kX hE0, ⟨Sl.ext ky hE0, oy, LnsOk.ext kY hE0⟩, ⟨Sl.ext kz hE0, oz, LnsOk.ext kZ hE0⟩, hw'⟩ ?_
      clear hE0 hw' hwa kx ky kz oy oz kX kY kZ hw9 hw0
      rintro ⟨X', vx, j⟩ w1 ⟨⟨hj, hlen, hmap⟩, hO, hL, ⟨sy, oy, ly⟩, ⟨sz, oz, lz'⟩, hE9⟩
      simp only at hj hlen hmap hO hL oy ly oz lz' ⊢
      have hE0 := Ext.refl w1
      by_cases hjl : j < Y.length
      · obtain ⟨y, hy⟩ : ∃ y, Y[j]? = some y := ⟨_, List.getElem?_eq_getElem hjl⟩
        obtain ⟨m, u, gs⟩ := y
        have hY2 := lnD_take hy
        have hm : m ≤ 1 + (linesB b).length := all_num any (linesB b) 1 (m, gs) (by have h := List.mem_of_getElem? hY2; rw [hY] at h; exact h)
        have hbl := lines_le b
        obtain ⟨hu, hou⟩ := ly _ (List.mem_of_getElem? hy)
        simp only at hu hou
        obtain ⟨d, rfl⟩ : ∃ d, ay = some d := by
          obtain ⟨ao', c', e, _, _, hz⟩ := sy
          cases e
          cases ay with
          | none => have := hz rfl; omega
          | some d => exact ⟨d, rfl⟩
        have hyr : Row w1 (Addr.add d (j * 2)) [.int .i64 (m : Int), u] := by
          obtain ⟨ao', c', e, _, hr, _⟩ := sy
          cases e
          exact flat_row (cel := lnV) (zs := []) lnV_len (by simpa using hr d rfl) hy
        have huk := hu
        obtain ⟨ua, uc, rfl, -, -, -⟩ := huk
        have hmap' : ∀ v : Value, (X' ++ [((m + (1 + a.count 10), v, gs) : Ln)]).map lnD = X.map lnD ++ ((Y.map lnD).take (j + 1)).map (shift (1 + a.count 10)) := fun v => by
          rw [List.map_append, hmap, List.take_add_one, hY2, List.map_append, List.append_assoc]; rfl
        refine Cd.seq ?_
        refine Cd.seq ?_
        refine Cd.region ?_
        refine Seg.step rfl rfl (Yd.move rfl) ?_
        refine Seg.step rfl rfl (Yd.move rfl) ?_
        refine Seg.step rfl rfl (Yd.lenS rfl rfl) ?_
        refine Seg.step rfl rfl (Yd.lss rfl rfl) ?_
        refine Seg.nil ?_
        refine At.then_ ?_
        refine Cd.condk rfl (fun h76 => ?_) (fun h76 => ?_)
        rotate_left 1
        · exfalso; omega
        rotate_right 1
        refine Cd.skip ?_
        refine At.then_ ?_
        refine Cd.seq ?_
        refine Cd.block ?_
        refine Cd.anyE (by kernel_rfl) (fun w82 hE82 => ?_)
        replace hO := own_ext hO hE82
        replace hL := hL.ext hE82
        replace ly := ly.ext hE82
        replace hE9 := Ext.trans hE9 hE82
        replace sz := sz.ext hE82
        replace lz' := lz'.ext hE82
        replace hE0 := Ext.trans hE0 hE82
        replace sy := sy.ext hE82
        replace hyr := hyr.ext hE82
        refine SegA.pure 0 rfl (by kernel_rfl) (by kernel_rfl) (by kernel_rfl) rfl rfl (fun _ => Yd.move rfl) ?_
        refine SegA.pure 1 rfl (by kernel_rfl) (by kernel_rfl) (by kernel_rfl) rfl rfl (fun _ => Yd.move rfl) ?_
        refine SegA.pure 2 rfl (by kernel_rfl) (by kernel_rfl) (by kernel_rfl) rfl rfl (fun _ => Yd.move rfl) ?_
        refine SegA.pure 3 rfl (by kernel_rfl) (by kernel_rfl) (by kernel_rfl) rfl rfl (fun _ => Yd.indexAddr rfl rfl rfl (NatOf.cast _) (by omega)) ?_
        refine SegA.pure 4 rfl (by kernel_rfl) (by kernel_rfl) (by kernel_rfl) rfl rfl (fun _ => Yd.fieldAddr rfl rfl) ?_
        refine SegA.pure 6 rfl (by kernel_rfl) (by kernel_rfl) (by kernel_rfl) rfl rfl (fun _ => Yd.move rfl) ?_
        refine SegA.pure 8 rfl (by kernel_rfl) (by kernel_rfl) (by kernel_rfl) rfl rfl (fun _ => Yd.move rfl) ?_
        refine SegA.pure 9 rfl (by kernel_rfl) (by kernel_rfl) (by kernel_rfl) rfl rfl (fun _ => Yd.move rfl) ?_
        refine SegA.pure 10 rfl (by kernel_rfl) (by kernel_rfl) (by kernel_rfl) rfl rfl (fun _ => Yd.indexAddr rfl rfl rfl (NatOf.cast _) (by omega)) ?_
        refine SegA.pure 11 rfl (by kernel_rfl) (by kernel_rfl) (by kernel_rfl) rfl rfl (fun _ => Yd.fieldAddr rfl rfl) ?_
        refine SegA.held 15 ?_
        refine SegG.twoSeg (o := ⟨_, _, _, _, _, _⟩) (o' := ⟨_, _, _, _, _, _⟩) 5 12 rfl rfl (by kernel_rfl) ?_ ?_
        refine Seg.step rfl rfl (Yd.load1 rfl rfl (hyr _ _ rfl)) ?_
        refine SegG.back rfl (by first | assumption | exact Ext.refl _) ?_
        refine SegG.twoSeg (o := ⟨_, _, _, _, _, _⟩) (o' := ⟨_, _, _, _, _, _⟩) 7 12 rfl rfl (by kernel_rfl) ?_ ?_
        refine Seg.step rfl rfl (Yd.addI rfl rfl (by omega)) ?_
        refine SegG.back rfl (by first | assumption | exact Ext.refl _) ?_
        refine SegG.oneSeg (o := ⟨_, _, _, _, _, _⟩) 12 rfl (by kernel_rfl) ?_
        refine Seg.step rfl rfl (Yd.load1 rfl rfl (hyr _ _ rfl)) ?_
        refine SegG.back rfl (by first | assumption | exact Ext.refl _) ?_
        refine SegG.oneSeg (o := ⟨_, _, _, _, _, _⟩) 13 rfl (by kernel_rfl) ?_
        refine Seg.step rfl rfl (Yd.buildT (cs := _ :: _ :: []) 2 rfl rfl rfl rfl rfl) ?_
        refine SegG.back rfl (by first | assumption | exact Ext.refl _) ?_
        refine SegG.oneSeg (o := ⟨_, _, _, _, _, _⟩) 14 rfl (by kernel_rfl) ?_
        refine Seg.buildSliceV rfl rfl rfl rfl rfl rfl rfl rfl rfl rfl (fun w107 b107 hE107 hB107 hb107 hO107 => ?_)
        have hlt107_0 := Nat.le_trans hE82.size hb107
        have hlt107_1 := Nat.le_trans hE9.size hb107
        have hlt107_2 := Nat.le_trans hE0.size hb107
        replace hE82 := Ext.trans hE82 hE107
        replace hO := own_ext hO hE107
        replace hL := hL.ext hE107
        replace ly := ly.ext hE107
        replace hE9 := Ext.trans hE9 hE107
        replace sz := sz.ext hE107
        replace lz' := lz'.ext hE107
        replace hE0 := Ext.trans hE0 hE107
        replace sy := sy.ext hE107
        replace hyr := hyr.ext hE107
        refine SegG.back rfl (by first | assumption | exact Ext.refl _) ?_
        refine SegG.oneSeg (o := ⟨_, _, _, _, _, _⟩) 15 rfl (by kernel_rfl) ?_
        (refine Seg.appendAt (news := lnV (m + (1 + a.count 10), .slice ua gs.length uc, gs)) (m' := 1) rfl rfl rfl rfl rfl rfl rfl rfl rfl hO (own_sl (by assumption)) (by simp [lnV, Value.oneCell']) (Below.size hE9) (by omega) rfl (fun v110 w110 hN hG hAt => ?_); have tot := Kept.grown hG hAt; have hE9 := Ext.own hE9 hO (Nat.le_refl _) hG)
        refine SegG.end_ rfl ?_
        refine SegA.pure 16 rfl (by kernel_rfl) (by kernel_rfl) (by kernel_rfl) rfl rfl (fun _ => Yd.assign rfl) ?_
        refine SegA.done (by kernel_rfl) ?_
        refine At.blk ?_
        refine At.then_ ?_
        refine Cd.region ?_
        refine Seg.step rfl rfl (Yd.move rfl) ?_
        refine Seg.step rfl rfl (Yd.addI rfl rfl (by omega)) ?_
        refine Seg.step rfl rfl (Yd.assign rfl) ?_
        refine Seg.nil ?_
        exact At.round (X' ++ [((m + (1 + a.count 10), Value.slice ua gs.length uc, gs) : Ln)], _, j + 1) (.cons rfl (.cons rfl (.cons rfl (.cons rfl (.cons rfl (.cons rfl (.cons rfl (.cons rfl (.cons rfl (.nil _)))))))))) ⟨⟨hjl, by simp [hlen]; omega, hmap' _⟩, own_snoc hN, (LnsOk.kept hL tot).snoc ((hu.ext hE0).keptP tot hou) (hou.kept (hu.ext hE0) tot), ⟨sy.keptP tot oy, oy.kept sy tot, LnsOk.kept ly tot⟩, ⟨sz.keptP tot oz, oz.kept sz tot, LnsOk.kept lz' tot⟩, hE9⟩ (Nat.sub_lt_sub_left hjl (Nat.lt_succ_self j))
        refine Seg.step rfl rfl (Yd.load1 rfl rfl (hyr _ _ rfl)) ?_
        refine SegG.back rfl (by first | assumption | exact Ext.refl _) ?_
        refine SegG.oneSeg (o := ⟨_, _, _, _, _, _⟩) 7 rfl (by kernel_rfl) ?_
        refine Seg.step rfl rfl (Yd.addI rfl rfl (by omega)) ?_
        refine SegG.back rfl (by first | assumption | exact Ext.refl _) ?_
        refine SegG.oneSeg (o := ⟨_, _, _, _, _, _⟩) 13 rfl (by kernel_rfl) ?_
        refine Seg.step rfl rfl (Yd.buildT (cs := _ :: _ :: []) 2 rfl rfl rfl rfl rfl) ?_
        refine SegG.back rfl (by first | assumption | exact Ext.refl _) ?_
        refine SegG.oneSeg (o := ⟨_, _, _, _, _, _⟩) 14 rfl (by kernel_rfl) ?_
        refine Seg.buildSliceV rfl rfl rfl rfl rfl rfl rfl rfl rfl rfl (fun w92 b92 hE92 hB92 hb92 hO92 => ?_)
        have hlt92_0 := Nat.le_trans hE82.size hb92
        have hlt92_1 := Nat.le_trans hE9.size hb92
        have hlt92_2 := Nat.le_trans hE0.size hb92
        replace hE82 := Ext.trans hE82 hE92
        replace hO := own_ext hO hE92
        replace hL := hL.ext hE92
        replace ly := ly.ext hE92
        replace hE9 := Ext.trans hE9 hE92
        replace sz := sz.ext hE92
        replace lz' := lz'.ext hE92
        replace hE0 := Ext.trans hE0 hE92
        replace sy := sy.ext hE92
        replace hyr := hyr.ext hE92
        refine SegG.back rfl (by first | assumption | exact Ext.refl _) ?_
        refine SegG.oneSeg (o := ⟨_, _, _, _, _, _⟩) 15 rfl (by kernel_rfl) ?_
        (refine Seg.appendAt (news := lnV (m + (1 + a.count 10), .slice ua gs.length uc, gs)) (m' := 1) rfl rfl rfl rfl rfl rfl rfl rfl rfl hO (own_sl (by assumption)) (by simp [lnV, Value.oneCell']) (Below.size hE9) (by omega) rfl (fun v95 w95 hN hG hAt => ?_); have tot := Kept.grown hG hAt; have hE9 := Ext.own hE9 hO (Nat.le_refl _) hG)
        refine SegG.end_ rfl ?_
        refine SegA.pure 16 rfl (by kernel_rfl) (by kernel_rfl) (by kernel_rfl) rfl rfl (fun _ => Yd.assign rfl) ?_
        refine SegA.done (by kernel_rfl) ?_
        refine At.blk ?_
        refine At.then_ ?_
        refine Cd.region ?_
        refine Seg.step rfl rfl (Yd.move rfl) ?_
        refine Seg.step rfl rfl (Yd.addI rfl rfl (by omega)) ?_
        refine Seg.step rfl rfl (Yd.assign rfl) ?_
        refine Seg.nil ?_
        exact At.round (X' ++ [((m + (1 + a.count 10), Value.slice ua gs.length uc, gs) : Ln)], _, j + 1) (.cons rfl (.cons rfl (.cons rfl (.cons rfl (.cons rfl (.cons rfl (.cons rfl (.cons rfl (.cons rfl (.nil _)))))))))) ⟨⟨hjl, by simp [hlen]; omega, hmap' _⟩, own_snoc hN, (LnsOk.kept hL tot).snoc ((hu.ext hE0).keptP tot hou) (hou.kept (hu.ext hE0) tot), ⟨sy.keptP tot oy, oy.kept sy tot, LnsOk.kept ly tot⟩, ⟨sz.keptP tot oz, oz.kept sz tot, LnsOk.kept lz' tot⟩, hE9⟩ (Nat.sub_lt_sub_left hjl (Nat.lt_succ_self j))
        refine Seg.step rfl rfl (Yd.load1 rfl rfl (hyr _ _ rfl)) ?_
        refine SegG.back rfl (by first | assumption | exact Ext.refl _) ?_
        refine SegG.oneSeg (o := ⟨_, _, _, _, _, _⟩) 5 rfl (by kernel_rfl) ?_
        refine Seg.step rfl rfl (Yd.load1 rfl rfl (hyr _ _ rfl)) ?_
        refine SegG.back rfl (by first | assumption | exact Ext.refl _) ?_
        refine SegG.oneSeg (o := ⟨_, _, _, _, _, _⟩) 7 rfl (by kernel_rfl) ?_
        refine Seg.step rfl rfl (Yd.addI rfl rfl (by omega)) ?_
        refine SegG.back rfl (by first | assumption | exact Ext.refl _) ?_
        refine SegG.oneSeg (o := ⟨_, _, _, _, _, _⟩) 13 rfl (by kernel_rfl) ?_
        refine Seg.step rfl rfl (Yd.buildT (cs := _ :: _ :: []) 2 rfl rfl rfl rfl rfl) ?_
        refine SegG.back rfl (by first | assumption | exact Ext.refl _) ?_
        refine SegG.oneSeg (o := ⟨_, _, _, _, _, _⟩) 14 rfl (by kernel_rfl) ?_
        refine Seg.buildSliceV rfl rfl rfl rfl rfl rfl rfl rfl rfl rfl (fun w95 b95 hE95 hB95 hb95 hO95 => ?_)
        have hlt95_0 := Nat.le_trans hE82.size hb95
        have hlt95_1 := Nat.le_trans hE9.size hb95
        have hlt95_2 := Nat.le_trans hE0.size hb95
        replace hE82 := Ext.trans hE82 hE95
        replace hO := own_ext hO hE95
        replace hL := hL.ext hE95
        replace ly := ly.ext hE95
        replace hE9 := Ext.trans hE9 hE95
        replace sz := sz.ext hE95
        replace lz' := lz'.ext hE95
        replace hE0 := Ext.trans hE0 hE95
        replace sy := sy.ext hE95
        replace hyr := hyr.ext hE95
        refine SegG.back rfl (by first | assumption | exact Ext.refl _) ?_
        refine SegG.oneSeg (o := ⟨_, _, _, _, _, _⟩) 15 rfl (by kernel_rfl) ?_
        (refine Seg.appendAt (news := lnV (m + (1 + a.count 10), .slice ua gs.length uc, gs)) (m' := 1) rfl rfl rfl rfl rfl rfl rfl rfl rfl hO (own_sl (by assumption)) (by simp [lnV, Value.oneCell']) (Below.size hE9) (by omega) rfl (fun v98 w98 hN hG hAt => ?_); have tot := Kept.grown hG hAt; have hE9 := Ext.own hE9 hO (Nat.le_refl _) hG)
        refine SegG.end_ rfl ?_
        refine SegA.pure 16 rfl (by kernel_rfl) (by kernel_rfl) (by kernel_rfl) rfl rfl (fun _ => Yd.assign rfl) ?_
        refine SegA.done (by kernel_rfl) ?_
        refine At.blk ?_
        refine At.then_ ?_
        refine Cd.region ?_
        refine Seg.step rfl rfl (Yd.move rfl) ?_
        refine Seg.step rfl rfl (Yd.addI rfl rfl (by omega)) ?_
        refine Seg.step rfl rfl (Yd.assign rfl) ?_
        refine Seg.nil ?_
        exact At.round (X' ++ [((m + (1 + a.count 10), Value.slice ua gs.length uc, gs) : Ln)], _, j + 1) (.cons rfl (.cons rfl (.cons rfl (.cons rfl (.cons rfl (.cons rfl (.cons rfl (.cons rfl (.cons rfl (.nil _)))))))))) ⟨⟨hjl, by simp [hlen]; omega, hmap' _⟩, own_snoc hN, (LnsOk.kept hL tot).snoc ((hu.ext hE0).keptP tot hou) (hou.kept (hu.ext hE0) tot), ⟨sy.keptP tot oy, oy.kept sy tot, LnsOk.kept ly tot⟩, ⟨sz.keptP tot oz, oz.kept sz tot, LnsOk.kept lz' tot⟩, hE9⟩ (Nat.sub_lt_sub_left hjl (Nat.lt_succ_self j))
      · have hj' : (Y.map lnD).take j = allB any b := by rw [List.take_of_length_le (by simp; omega), hY]
        have hX' : X'.map lnD = allB any (a ++ [10] ++ b) := by
          rw [hmap, hj', hX, ← all_join]; simp
        have hXA := ln_at hO hL hX' (all_flds any _ 1)
        have hZA : LnAt w1 (.slice az Z.length cz) Z := ⟨sz, fun x hx => ⟨(lz' x hx).1, all_flds any _ 1 (lnD x) (by show lnD x ∈ allB any (a ++ [10] ++ b); rw [← hZ]; exact List.mem_map_of_mem hx)⟩⟩
        have hd : decide (X'.map lnD = Z.map lnD) = true := decide_eq_true (by rw [hX', hZ])
        refine Cd.seq ?_
        refine Cd.seq ?_
        refine Cd.region ?_
        refine Seg.step rfl rfl (Yd.move rfl) ?_
        refine Seg.step rfl rfl (Yd.move rfl) ?_
        refine Seg.step rfl rfl (Yd.lenS rfl rfl) ?_
        refine Seg.step rfl rfl (Yd.lss rfl rfl) ?_
        refine Seg.nil ?_
        refine At.then_ ?_
        refine Cd.condk rfl (fun h76 => ?_) (fun h76 => ?_)
        · exfalso; omega
        · refine Cd.exit ?_
          refine At.then_exit ?_
          refine At.then_exit ?_
          refine At.blk_same ?_
          refine At.then_ ?_
          refine Cd.seq ?_
          refine Cd.region ?_
          refine Seg.step rfl rfl (Yd.move rfl) ?_
          refine Seg.step rfl rfl (Yd.move rfl) ?_
          refine Seg.step rfl rfl (Yd.move rfl) ?_
          refine Seg.step rfl rfl (Yd.pickT rfl rfl) ?_
          refine Seg.step rfl rfl (Yd.move rfl) ?_
          refine Seg.step rfl rfl (Yd.move rfl) ?_
          refine Seg.step rfl rfl (Yd.pickT rfl rfl) ?_
          refine Seg.step rfl rfl (Yd.move rfl) ?_
          refine Seg.step rfl rfl (Yd.move rfl) ?_
          refine Seg.step rfl rfl (Yd.move rfl) ?_
          (refine Seg.call rfl rfl (own_of rfl) rfl (same_any X' Z _ _ _ hXA hZA (by omega)) ?_; rw [hd]; rintro _ w95 ⟨rfl, hE95⟩)
          replace hO := own_ext hO hE95
          replace hL := hL.ext hE95
          replace sy := sy.ext hE95
          replace ly := ly.ext hE95
          replace hE9 := Ext.trans hE9 hE95
          replace sz := sz.ext hE95
          replace lz' := lz'.ext hE95
          replace hE0 := Ext.trans hE0 hE95
          replace hXA := hXA.ext hE95
          replace hZA := hZA.ext hE95
          refine Seg.step rfl rfl (Yd.pickT rfl rfl) ?_
          refine Seg.step rfl rfl (Yd.assign rfl) ?_
          refine Seg.nil ?_
          refine At.then_ ?_
          refine Cd.ret ?_
          exact At.ret Try.results3 (.tmp rfl .nil) ⟨rfl, Ext.trans hw hE9⟩
  · refine Cd.seq ?_
    refine Cd.region ?_
    refine Seg.step rfl rfl (Yd.assign rfl) ?_
    refine Seg.nil ?_
    refine At.then_ ?_
    refine Cd.seq ?_
    refine Cd.seq ?_
    refine Cd.region ?_
    (refine Seg.call rfl rfl (own_of rfl) rfl (works16 _) ?_; rintro _ w9 ⟨rfl, hE9⟩)
    replace hE0 := Ext.trans hE0 hE9
    refine Seg.step rfl rfl (Yd.not rfl) ?_
    refine Seg.step rfl rfl (Yd.move rfl) ?_
    refine Seg.step rfl rfl (Yd.move rfl) ?_
    refine Seg.step rfl rfl (Yd.lenStr rfl rfl) ?_
    refine Seg.step rfl rfl (Yd.move rfl) ?_
    refine Seg.step rfl rfl (Yd.lenStr rfl rfl) ?_
    refine Seg.step rfl rfl (Yd.addI rfl rfl (by omega)) ?_
    refine Seg.step rfl rfl (Yd.gtr rfl rfl) ?_
    refine Seg.step rfl rfl (Yd.pickF rfl rfl) ?_
    refine Seg.nil ?_
    refine At.then_ ?_
    refine Cd.condk rfl (fun h21 => ?_) (fun h21 => ?_)
    · refine Cd.seq ?_
      refine Cd.region ?_
      (refine Seg.call rfl rfl (own_of rfl) rfl (works16 _) ?_; rintro _ w25 ⟨rfl, hE25⟩)
      replace hE9 := Ext.trans hE9 hE25
      replace hE0 := Ext.trans hE0 hE25
      refine Seg.step rfl rfl (Yd.assign rfl) ?_
      refine Seg.nil ?_
      refine At.then_ ?_
      refine Cd.ret ?_
      refine At.then_ret ?_
      exact At.ret Try.results3 (.tmp rfl .nil) ⟨rfl, by assumption⟩
    · exfalso; omega
end Go.Proofs.Ytbmgigbedmgfpaa
