/- Records checked: rdata.kindOf, within, names, address, has, Check. -/
import Derived.Test.YtahpiaaffeiadaaGreatZre
namespace Go.Proofs.YtahpiaaffeiadaaGreat
open Go Go.RowKit
/-- The kind of data that a record has: a type's number, or 0 for Raw. -/
def kdN (ty cl : Int) : Int := if cl = 1 ∧ (ty = 1 ∨ ty = 28 ∨ ty = 5 ∨ ty = 12 ∨ ty = 33 ∨ ty = 6) then ty else 0
theorem kd_in {ty cl : Int} (hc : cl = 1) (h : ty = 1 ∨ ty = 28 ∨ ty = 5 ∨ ty = 12 ∨ ty = 33 ∨ ty = 6) : Value.int .i64 ty = .int .i64 (kdN ty cl) := by unfold kdN; rw [if_pos ⟨hc, h⟩]
theorem kd_out {ty cl : Int} (h : ¬ (cl = 1 ∧ (ty = 1 ∨ ty = 28 ∨ ty = 5 ∨ ty = 12 ∨ ty = 33 ∨ ty = 6))) : Value.int .i64 0 = .int .i64 (kdN ty cl) := by unfold kdN; rw [if_neg h]
theorem kd_cases (ty cl : Int) : kdN ty cl = 1 ∨ kdN ty cl = 28 ∨ kdN ty cl = 5 ∨ kdN ty cl = 12 ∨ kdN ty cl = 33 ∨ kdN ty cl = 6 ∨ kdN ty cl = 0 := by
  unfold kdN
  split <;> omega
theorem rkind_any (ty cl : Int) (w : World) : Ret Tryz.prog 69 #[.int .i64 ty, .int .i64 cl] w fun v w' => v = .int .i64 (kdN ty cl) ∧ Ext w w' := by
  have hE0 := Ext.refl w
  refine Ret.body Tryz.func69 rfl Tryz.ntmps69 rfl (Cd.seq (Cd.region (Seg.step rfl rfl (Yd.assign rfl) (Seg.nil (At.then_ (Cd.seq (Cd.seq ?_)))))))
  refine Cd.region (Seg.step rfl rfl (Yd.move rfl) (Seg.step rfl rfl (Yd.neq rfl rfl) (Seg.nil (At.then_ ?_))))
  refine Cd.condk rfl (fun h13 => ?_) (fun h13 => ?_)
  · refine Cd.seq (Cd.region (Seg.step rfl rfl (Yd.assign rfl) (Seg.nil (At.then_ (Cd.ret (At.then_ret ?_))))))
    first | exact At.ret Tryz.results69 (.tmp rfl .nil) ⟨kd_in (by omega) (by omega), hE0⟩ | exact At.ret Tryz.results69 (.tmp rfl .nil) ⟨kd_out (by omega), hE0⟩
  · refine Cd.skip (At.then_ (Cd.seq (Cd.seq (Cd.region (Seg.step rfl rfl (Yd.move rfl) (Seg.nil (At.then_ ?_)))))))
    refine Cd.block (Cd.seq (Cd.seq (Cd.region (Seg.step rfl rfl (Yd.eql rfl rfl) (Seg.step rfl rfl (Yd.assign rfl) (Seg.nil (At.then_ ?_)))))))
    refine Cd.condk rfl (fun h40 => ?_) (fun h40 => ?_)
    · refine Cd.skip (At.then_ (Cd.condT rfl (Cd.seq (Cd.region (Seg.step rfl rfl (Yd.move rfl) (Seg.step rfl rfl (Yd.assign rfl) (Seg.nil ?_)))))))
      refine At.then_ (Cd.ret (At.blk_ret (At.then_ret ?_)))
      first | exact At.ret Tryz.results69 (.tmp rfl .nil) ⟨kd_in (by omega) (by omega), hE0⟩ | exact At.ret Tryz.results69 (.tmp rfl .nil) ⟨kd_out (by omega), hE0⟩
    · refine Cd.seq (Cd.region (Seg.step rfl rfl (Yd.eql rfl rfl) (Seg.step rfl rfl (Yd.assign rfl) (Seg.nil (At.then_ ?_)))))
      refine Cd.condk rfl (fun h62 => ?_) (fun h62 => ?_)
      · refine Cd.skip (At.then_ (Cd.condT rfl (Cd.seq (Cd.region (Seg.step rfl rfl (Yd.move rfl) (Seg.step rfl rfl (Yd.assign rfl) (Seg.nil ?_)))))))
        refine At.then_ (Cd.ret (At.blk_ret (At.then_ret ?_)))
        first | exact At.ret Tryz.results69 (.tmp rfl .nil) ⟨kd_in (by omega) (by omega), hE0⟩ | exact At.ret Tryz.results69 (.tmp rfl .nil) ⟨kd_out (by omega), hE0⟩
      · refine Cd.seq (Cd.region (Seg.step rfl rfl (Yd.eql rfl rfl) (Seg.step rfl rfl (Yd.assign rfl) (Seg.nil (At.then_ ?_)))))
        refine Cd.condk rfl (fun h84 => ?_) (fun h84 => ?_)
        · refine Cd.skip (At.then_ (Cd.condT rfl (Cd.seq (Cd.region (Seg.step rfl rfl (Yd.move rfl) (Seg.step rfl rfl (Yd.assign rfl) (Seg.nil ?_)))))))
          refine At.then_ (Cd.ret (At.blk_ret (At.then_ret ?_)))
          first | exact At.ret Tryz.results69 (.tmp rfl .nil) ⟨kd_in (by omega) (by omega), hE0⟩ | exact At.ret Tryz.results69 (.tmp rfl .nil) ⟨kd_out (by omega), hE0⟩
        · refine Cd.seq (Cd.region (Seg.step rfl rfl (Yd.eql rfl rfl) (Seg.step rfl rfl (Yd.assign rfl) (Seg.nil (At.then_ ?_)))))
          refine Cd.condk rfl (fun h106 => ?_) (fun h106 => ?_)
          · refine Cd.skip (At.then_ (Cd.condT rfl (Cd.seq (Cd.region (Seg.step rfl rfl (Yd.move rfl) (Seg.step rfl rfl (Yd.assign rfl) (Seg.nil ?_)))))))
            refine At.then_ (Cd.ret (At.blk_ret (At.then_ret ?_)))
            first | exact At.ret Tryz.results69 (.tmp rfl .nil) ⟨kd_in (by omega) (by omega), hE0⟩ | exact At.ret Tryz.results69 (.tmp rfl .nil) ⟨kd_out (by omega), hE0⟩
          · refine Cd.seq (Cd.region (Seg.step rfl rfl (Yd.eql rfl rfl) (Seg.step rfl rfl (Yd.assign rfl) (Seg.nil (At.then_ ?_)))))
            refine Cd.condk rfl (fun h128 => ?_) (fun h128 => ?_)
            · refine Cd.skip (At.then_ (Cd.condT rfl (Cd.seq (Cd.region (Seg.step rfl rfl (Yd.move rfl) (Seg.step rfl rfl (Yd.assign rfl) (Seg.nil ?_)))))))
              refine At.then_ (Cd.ret (At.blk_ret (At.then_ret ?_)))
              first | exact At.ret Tryz.results69 (.tmp rfl .nil) ⟨kd_in (by omega) (by omega), hE0⟩ | exact At.ret Tryz.results69 (.tmp rfl .nil) ⟨kd_out (by omega), hE0⟩
            · refine Cd.region (Seg.step rfl rfl (Yd.eql rfl rfl) (Seg.step rfl rfl (Yd.assign rfl) (Seg.nil (At.then_ ?_))))
              refine Cd.condk rfl (fun h149 => ?_) (fun h149 => ?_)
              · refine Cd.seq (Cd.region (Seg.step rfl rfl (Yd.move rfl) (Seg.step rfl rfl (Yd.assign rfl) (Seg.nil (At.then_ (Cd.ret (At.blk_ret ?_)))))))
                refine At.then_ret ?_
                first | exact At.ret Tryz.results69 (.tmp rfl .nil) ⟨kd_in (by omega) (by omega), hE0⟩ | exact At.ret Tryz.results69 (.tmp rfl .nil) ⟨kd_out (by omega), hE0⟩
              · refine Cd.skip (At.blk (At.then_ (Cd.seq (Cd.region (Seg.step rfl rfl (Yd.assign rfl) (Seg.nil (At.then_ ?_)))))))
                refine Cd.ret ?_
                first | exact At.ret Tryz.results69 (.tmp rfl .nil) ⟨kd_in (by omega) (by omega), hE0⟩ | exact At.ret Tryz.results69 (.tmp rfl .nil) ⟨kd_out (by omega), hE0⟩
def intL (l : List Int) : List Value := l.map fun (c : Int) => Value.int .i64 c
theorem intL_at {l : List Int} {i : Nat} {c : Int} (h : l[i]? = some c) : (intL l)[i]? = some (.int .i64 c) := by simp [intL, h]
theorem take_snoc {α : Type} {l : List α} {i : Nat} {c : α} (h : l[i]? = some c) : l.take (i + 1) = l.take i ++ [c] := by rw [List.take_add_one, h]; rfl
theorem rwithin_any (most : Int) (l : List Int) (v0 : Value) (w : World) (h0 : Sl w 1 v0 l.length (intL l)) (hl : l.length ≤ 100) :
    Ret Tryz.prog 66 #[.int .i64 most, v0] w fun v w' => v = .bool (decide (∀ n ∈ l, 0 ≤ n ∧ n ≤ most)) ∧ Ext w w' := by
  have hE0 := Ext.refl w
  obtain ⟨ao, c, rfl, hl0, hr0, hz0⟩ := h0
  refine Ret.body Tryz.func66 rfl Tryz.ntmps66 rfl (Cd.seq (Cd.region (Seg.step rfl rfl (Yd.assign rfl) (Seg.nil (At.then_ (Cd.seq (Cd.seq ?_)))))))
  refine Cd.region (Seg.step rfl rfl (Yd.move rfl) (Seg.step rfl rfl (Yd.lenS rfl rfl) (Seg.step rfl rfl (Yd.move rfl) (Seg.nil (At.then_ (Cd.block ?_))))))
  refine Cd.loop (σ := Nat) (fun t => [(0, .int .i64 most), (7, .slice ao l.length c), (8, .int .i64 (l.length : Int)), (9, .int .i64 (t : Int))])
    (fun t w' => (t ≤ l.length ∧ ∀ n ∈ l.take t, 0 ≤ n ∧ n ≤ most) ∧ Ext w w') (fun t => l.length - t) 0 (.cons rfl (.cons rfl (.cons rfl (.cons rfl (.nil _))))) ⟨⟨Nat.zero_le _, fun n hn => by cases hn⟩, hE0⟩ ?_
  clear hE0
  rintro i w0 ⟨⟨hi, hT⟩, hE0⟩
  by_cases hlt : i < l.length
  · obtain ⟨a, rfl⟩ : ∃ a, ao = some a := by
      cases ao with
      | none => have := hz0 rfl; omega
      | some a => exact ⟨a, rfl⟩
    have hr0 := hr0 a rfl
    obtain ⟨n, hn⟩ : ∃ n, l[i]? = some n := ⟨_, List.getElem?_eq_getElem hlt⟩
    have hmem := List.mem_of_getElem? hn
    by_cases hok : 0 ≤ n ∧ n ≤ most
    · have h1 : ¬ n < 0 := by omega
      have h2 : ¬ most < n := by omega
      have hT2 : ∀ m ∈ l.take (i + 1), 0 ≤ m ∧ m ≤ most := fun m hm => by
        rw [take_snoc hn] at hm
        rcases List.mem_append.1 hm with hm | hm
        · exact hT m hm
        · rw [List.mem_singleton] at hm; rw [hm]; exact hok
      refine Cd.seq (Cd.region (Seg.step rfl rfl (Yd.lss rfl rfl) (Seg.nil (At.then_ (Cd.seq ?_)))))
      refine Cd.condk rfl (fun h9 => ?_) (fun h9 => ?_)
      · refine Cd.skip (At.then_ (Cd.seq (Cd.block (Cd.seq (Cd.region (Seg.step rfl rfl (Yd.indexAddr1 rfl rfl rfl (NatOf.cast _) (by omega)) (Seg.step rfl rfl (Yd.load1 rfl rfl ((hr0.ext hE0) _ _ (intL_at hn))) ?_)))))))
        refine Seg.step rfl rfl (Yd.assign rfl) (Seg.nil (At.then_ (Cd.seq (Cd.region (Seg.step rfl rfl (Yd.move rfl) (Seg.step rfl rfl (Yd.lss rfl rfl) (Seg.step rfl rfl (Yd.move rfl) ?_)))))))
        refine Seg.gsplitp rfl rfl (fun h27 => ?_) (fun h27 => ?_)
        · exfalso; omega
        · refine Seg.step rfl rfl (Yd.move rfl) (Seg.step rfl rfl (Yd.move rfl) (Seg.step rfl rfl (Yd.gtr rfl rfl) (Seg.step rfl rfl (Yd.pickF rfl rfl) (Seg.nil (At.then_ ?_)))))
          refine Cd.condk rfl (fun h35 => ?_) (fun h35 => ?_)
          · exfalso; omega
          · refine Cd.skip (At.blk (At.then_ (Cd.region (Seg.step rfl rfl (Yd.addI rfl rfl (by omega)) (Seg.step rfl rfl (Yd.move rfl) (Seg.nil ?_))))))
            exact At.round (i + 1) (.cons rfl (.cons rfl (.cons rfl (.cons rfl (.nil _))))) ⟨⟨hlt, hT2⟩, hE0⟩ (Nat.sub_lt_sub_left hlt (Nat.lt_succ_self i))
      · exfalso; omega
    · have hno : Value.bool false = .bool (decide (∀ n ∈ l, 0 ≤ n ∧ n ≤ most)) := (bF fun h => hok (h n hmem))
      by_cases h1 : n < 0
      · refine Cd.seq (Cd.region (Seg.step rfl rfl (Yd.lss rfl rfl) (Seg.nil (At.then_ (Cd.seq ?_)))))
        refine Cd.condk rfl (fun h8 => ?_) (fun h8 => ?_)
        · refine Cd.skip (At.then_ (Cd.seq (Cd.block (Cd.seq (Cd.region (Seg.step rfl rfl (Yd.indexAddr1 rfl rfl rfl (NatOf.cast _) (by omega)) (Seg.step rfl rfl (Yd.load1 rfl rfl ((hr0.ext hE0) _ _ (intL_at hn))) ?_)))))))
          refine Seg.step rfl rfl (Yd.assign rfl) (Seg.nil (At.then_ (Cd.seq (Cd.region (Seg.step rfl rfl (Yd.move rfl) (Seg.step rfl rfl (Yd.lss rfl rfl) (Seg.step rfl rfl (Yd.move rfl) ?_)))))))
          refine Seg.gsplitp rfl rfl (fun h26 => ?_) (fun h26 => ?_)
          · refine Seg.skip rfl rfl (Seg.skip rfl rfl (Seg.skip rfl rfl (Seg.step rfl rfl (Yd.pickT rfl rfl) (Seg.nil (At.then_ (Cd.condT rfl (Cd.seq ?_)))))))
            refine Cd.region (Seg.step rfl rfl (Yd.assign rfl) (Seg.nil (At.then_ (Cd.ret (At.blk_ret (At.then_ret (At.then_ret ?_)))))))
            refine At.blk_ret (At.then_ret ?_)
            exact At.ret Tryz.results66 (.tmp rfl .nil) ⟨hno, hE0⟩
          · exfalso; omega
        · exfalso; omega
      · have h2 : most < n := by omega
        refine Cd.seq (Cd.region (Seg.step rfl rfl (Yd.lss rfl rfl) (Seg.nil (At.then_ (Cd.seq ?_)))))
        refine Cd.condk rfl (fun h9 => ?_) (fun h9 => ?_)
        · refine Cd.skip (At.then_ (Cd.seq (Cd.block (Cd.seq (Cd.region (Seg.step rfl rfl (Yd.indexAddr1 rfl rfl rfl (NatOf.cast _) (by omega)) (Seg.step rfl rfl (Yd.load1 rfl rfl ((hr0.ext hE0) _ _ (intL_at hn))) ?_)))))))
          refine Seg.step rfl rfl (Yd.assign rfl) (Seg.nil (At.then_ (Cd.seq (Cd.region (Seg.step rfl rfl (Yd.move rfl) (Seg.step rfl rfl (Yd.lss rfl rfl) (Seg.step rfl rfl (Yd.move rfl) ?_)))))))
          refine Seg.gsplitp rfl rfl (fun h27 => ?_) (fun h27 => ?_)
          · exfalso; omega
          · refine Seg.step rfl rfl (Yd.move rfl) (Seg.step rfl rfl (Yd.move rfl) (Seg.step rfl rfl (Yd.gtr rfl rfl) (Seg.step rfl rfl (Yd.pickF rfl rfl) (Seg.nil (At.then_ ?_)))))
            refine Cd.condk rfl (fun h35 => ?_) (fun h35 => ?_)
            · refine Cd.seq (Cd.region (Seg.step rfl rfl (Yd.assign rfl) (Seg.nil (At.then_ (Cd.ret (At.blk_ret (At.then_ret ?_)))))))
              refine At.then_ret (At.blk_ret (At.then_ret ?_))
              exact At.ret Tryz.results66 (.tmp rfl .nil) ⟨hno, hE0⟩
            · exfalso; omega
        · exfalso; omega
  · obtain rfl : i = l.length := by omega
    rw [List.take_length] at hT
    refine Cd.seq (Cd.region (Seg.step rfl rfl (Yd.lss rfl rfl) (Seg.nil (At.then_ (Cd.seq ?_)))))
    refine Cd.condk rfl (fun h7 => ?_) (fun h7 => ?_)
    · exfalso; omega
    · refine Cd.exit (At.then_exit (At.then_exit (At.blk_same (At.then_ (Cd.seq (Cd.region (Seg.step rfl rfl (Yd.assign rfl) ?_)))))))
      refine Seg.nil (At.then_ (Cd.ret ?_))
      exact At.ret Tryz.results66 (.tmp rfl .nil) ⟨bT hT, hE0⟩
/-- What is wrong with names, one behind the other. -/
def chkL : List (List (List UInt8)) → Int
  | [] => 0
  | n :: r => if chkN n = 0 then chkL r else chkN n
theorem chkL_cons (n : List (List UInt8)) (r : List (List (List UInt8))) : chkL (n :: r) = if chkN n = 0 then chkL r else chkN n := rfl
theorem rnames_any (L : List (List (List UInt8))) (vs : List Value) (v0 : Value) (w : World) (h0 : Sl w 1 v0 L.length vs) (hn : ∀ (i : Nat) (v : Value) (n : List (List UInt8)), vs[i]? = some v → L[i]? = some n → NameAt w v n) (hvl : vs.length = L.length) (hl : L.length ≤ 100) (hz : ∀ n ∈ L, szN n ≤ 4611686018427387904) :
    Ret Tryz.prog 86 #[v0] w fun v w' => v = .int .i64 (chkL L) ∧ Ext w w' := by
  have hE0 := Ext.refl w
  obtain ⟨ao, c, rfl, hl0, hr0, hz0⟩ := h0
  refine Ret.body Tryz.func86 rfl Tryz.ntmps86 rfl (Cd.seq (Cd.region (Seg.step rfl rfl (Yd.assign rfl) (Seg.nil (At.then_ (Cd.seq (Cd.seq ?_)))))))
  refine Cd.region (Seg.step rfl rfl (Yd.move rfl) (Seg.step rfl rfl (Yd.lenS rfl rfl) (Seg.step rfl rfl (Yd.move rfl) (Seg.nil (At.then_ (Cd.block ?_))))))
  refine Cd.loop (σ := Nat) (fun t => [(6, .slice ao L.length c), (7, .int .i64 (L.length : Int)), (8, .int .i64 (t : Int))])
    (fun t w' => (t ≤ L.length ∧ chkL (L.drop t) = chkL L) ∧ Ext w w') (fun t => L.length - t) 0 (.cons rfl (.cons rfl (.cons rfl (.nil _)))) ⟨⟨Nat.zero_le _, rfl⟩, hE0⟩ ?_
  clear hE0
  rintro i w0 ⟨⟨hi, hT⟩, hE0⟩
  by_cases hlt : i < L.length
  · obtain ⟨a, rfl⟩ : ∃ a, ao = some a := by
      cases ao with
      | none => have := hz0 rfl; omega
      | some a => exact ⟨a, rfl⟩
    have hr0 := hr0 a rfl
    obtain ⟨n, hni⟩ : ∃ n, L[i]? = some n := ⟨_, List.getElem?_eq_getElem hlt⟩
    obtain ⟨v, hvi⟩ : ∃ v, vs[i]? = some v := ⟨_, List.getElem?_eq_getElem (by omega)⟩
    have hmem := List.mem_of_getElem? hni
    have hN := hn i v n hvi hni
    have hdr : L.drop i = n :: L.drop (i + 1) := by
      have := List.drop_eq_getElem_cons hlt
      rw [List.getElem?_eq_getElem hlt] at hni
      cases hni
      exact this
    rw [hdr] at hT
    have hsl : ∃ ao co, v = .slice ao n.length co := by obtain ⟨ao, co, e, _⟩ := hN; exact ⟨ao, co, e⟩
    obtain ⟨na, nc, rfl⟩ := hsl
    rw [chkL_cons] at hT
    by_cases hok : chkN n = 0
    · rw [if_pos hok] at hT
      refine Cd.seq (Cd.region (Seg.step rfl rfl (Yd.lss rfl rfl) (Seg.nil (At.then_ (Cd.seq ?_)))))
      refine Cd.condk rfl (fun h7 => ?_) (fun h7 => ?_)
      · refine Cd.skip (At.then_ (Cd.seq (Cd.block (Cd.seq (Cd.region (Seg.step rfl rfl (Yd.indexAddr1 rfl rfl rfl (NatOf.cast _) (by omega)) (Seg.step rfl rfl (Yd.load1 rfl rfl ((hr0.ext hE0) _ _ hvi)) ?_)))))))
        refine Seg.step rfl rfl (Yd.assign rfl) (Seg.nil (At.then_ (Cd.seq (Cd.region (Seg.step rfl rfl (Yd.move rfl) ?_)))))
        (refine Seg.call rfl rfl (own_of rfl) rfl (dcheck_any n _ _ (Sl.ext hN hE0) (hz n hmem)) ?_; rw [hok]; rintro _ w23 ⟨rfl, hE23⟩)
        replace hE0 := Ext.trans hE0 hE23
        refine Seg.step rfl rfl (Yd.assign rfl) (Seg.nil (At.then_ (Cd.seq (Cd.region (Seg.step rfl rfl (Yd.move rfl) (Seg.step rfl rfl (Yd.neq rfl rfl) (Seg.nil ?_)))))))
        refine At.then_ (Cd.condF rfl (Cd.skip (At.blk (At.then_ (Cd.region (Seg.step rfl rfl (Yd.addI rfl rfl (by omega)) (Seg.step rfl rfl (Yd.move rfl) ?_)))))))
        refine Seg.nil ?_
        exact At.round (i + 1) (.cons rfl (.cons rfl (.cons rfl (.nil _)))) ⟨⟨hlt, hT⟩, hE0⟩ (Nat.sub_lt_sub_left hlt (Nat.lt_succ_self i))
      · exfalso; omega
    · rw [if_neg hok] at hT
      refine Cd.seq (Cd.region (Seg.step rfl rfl (Yd.lss rfl rfl) (Seg.nil (At.then_ (Cd.seq ?_)))))
      refine Cd.condk rfl (fun h7 => ?_) (fun h7 => ?_)
      · refine Cd.skip (At.then_ (Cd.seq (Cd.block (Cd.seq (Cd.region (Seg.step rfl rfl (Yd.indexAddr1 rfl rfl rfl (NatOf.cast _) (by omega)) (Seg.step rfl rfl (Yd.load1 rfl rfl ((hr0.ext hE0) _ _ hvi)) ?_)))))))
        refine Seg.step rfl rfl (Yd.assign rfl) (Seg.nil (At.then_ (Cd.seq (Cd.region (Seg.step rfl rfl (Yd.move rfl) ?_)))))
        (refine Seg.call rfl rfl (own_of rfl) rfl (dcheck_any n _ _ (Sl.ext hN hE0) (hz n hmem)) ?_; rintro _ w23 ⟨rfl, hE23⟩)
        replace hE0 := Ext.trans hE0 hE23
        refine Seg.step rfl rfl (Yd.assign rfl) (Seg.nil (At.then_ (Cd.seq (Cd.region (Seg.step rfl rfl (Yd.move rfl) (Seg.step rfl rfl (Yd.neq rfl rfl) (Seg.nil ?_)))))))
        refine At.then_ ?_
        refine Cd.condk rfl (fun h33 => ?_) (fun h33 => ?_)
        · refine Cd.seq (Cd.region (Seg.step rfl rfl (Yd.move rfl) (Seg.step rfl rfl (Yd.assign rfl) (Seg.nil (At.then_ (Cd.ret (At.blk_ret ?_)))))))
          refine At.then_ret (At.then_ret (At.blk_ret (At.then_ret ?_)))
          exact At.ret Tryz.results86 (.tmp rfl .nil) ⟨congrArg (Value.int .i64) hT, hE0⟩
        · exfalso; omega
      · exfalso; omega
  · obtain rfl : i = L.length := by omega
    rw [List.drop_length] at hT
    refine Cd.seq (Cd.region (Seg.step rfl rfl (Yd.lss rfl rfl) (Seg.nil (At.then_ (Cd.seq ?_)))))
    refine Cd.condk rfl (fun h7 => ?_) (fun h7 => ?_)
    · exfalso; omega
    · refine Cd.exit (At.then_exit (At.then_exit (At.blk_same (At.then_ (Cd.seq (Cd.region (Seg.step rfl rfl (Yd.assign rfl) ?_)))))))
      refine Seg.nil (At.then_ (Cd.ret ?_))
      exact At.ret Tryz.results86 (.tmp rfl .nil) ⟨congrArg (Value.int .i64) hT, hE0⟩
def adr4 (r : Rec) : List Value := [.int .i64 4, .int .u8 r.i0, .int .u8 r.i1, .int .u8 r.i2, .int .u8 r.i3, .int .u8 0, .int .u8 0, .int .u8 0, .int .u8 0, .int .u8 0, .int .u8 0, .int .u8 0, .int .u8 0, .int .u8 0, .int .u8 0, .int .u8 0, .int .u8 0, .int .i64 0]
theorem qof_any (a b c d : Int) (w : World) : Ret Tryz.prog 108 #[.int .u8 a, .int .u8 b, .int .u8 c, .int .u8 d] w fun v w' => v = .agg #[.int .i64 4, .int .u8 a, .int .u8 b, .int .u8 c, .int .u8 d, .int .u8 0, .int .u8 0, .int .u8 0, .int .u8 0, .int .u8 0, .int .u8 0, .int .u8 0, .int .u8 0, .int .u8 0, .int .u8 0, .int .u8 0, .int .u8 0, .int .i64 0] ∧ Ext w w' := by
  have hE0 := Ext.refl w
  refine Ret.body Tryz.func108 rfl Tryz.ntmps108 rfl (Cd.seq (Cd.region (Seg.alloc rfl rfl rfl (fun w3 b3 hE3 hB3 hb3 => ?_))))
  have hlt3_0 := Nat.le_trans hE0.size hb3
  replace hE0 := Ext.trans hE0 hE3
  refine Seg.nil (At.then_ (Cd.seq (Cd.region (Seg.step rfl rfl (Yd.move rfl) (Seg.step rfl rfl (Yd.move rfl) (Seg.step rfl rfl (Yd.move rfl) (Seg.step rfl rfl (Yd.move rfl) ?_)))))))
  refine Seg.step rfl rfl (Yd.buildArrT (cs := _ :: _ :: _ :: _ :: _ :: _ :: _ :: _ :: _ :: _ :: _ :: _ :: _ :: _ :: _ :: _ :: []) 16 rfl rfl rfl rfl rfl) (Seg.step rfl rfl (Yd.buildT (cs := _ :: _ :: _ :: _ :: _ :: _ :: _ :: _ :: _ :: _ :: _ :: _ :: _ :: _ :: _ :: _ :: _ :: _ :: []) 18 rfl rfl rfl rfl rfl) (Seg.storeN rfl rfl rfl rfl hB3 rfl (by first | assumption | exact List.all_eq_true.1 rfl) (fun w14 hW14 hB14 => ?_)))
  clear hB3
  replace hE3 := Ext.wr' hE3 hW14 (by omega)
  replace hE0 := Ext.wr' hE0 hW14 (by omega)
  refine Seg.nil (At.then_ (Cd.ret ?_))
  exact At.ret Tryz.results108 (.cell rfl (run_loadVarN rfl rfl (Bx.row (by assumption))) .nil) ⟨rfl, hE0⟩
theorem afirst_any (r : Rec) (w : World) : Ret Tryz.prog 107 #[.agg r.adrV.toArray] w fun v w' => v = .agg (adr4 r).toArray ∧ Ext w w' := by
  have hE0 := Ext.refl w
  refine Ret.body Tryz.func107 rfl Tryz.ntmps107 rfl (Cd.seq (Cd.region (Seg.box rfl rfl rfl (fun w3 b3 hE3 hB3 hb3 => ?_))))
  have hlt3_0 := Nat.le_trans hE0.size hb3
  replace hE0 := Ext.trans hE0 hE3
  refine Seg.alloc rfl rfl rfl (fun w4 b4 hE4 hB4 hb4 => ?_)
  have hlt4_0 := Nat.le_trans hE3.size hb4
  have hlt4_1 := Nat.lt_of_lt_of_le hB3.lt hb4
  have hlt4_2 := Nat.le_trans hE0.size hb4
  replace hE3 := Ext.trans hE3 hE4
  replace hB3 := hB3.ext hE4
  replace hE0 := Ext.trans hE0 hE4
  refine Seg.nil (At.then_ (Cd.seq (Cd.region (Seg.step rfl rfl (Yd.fieldAddr rfl rfl) (Seg.step rfl rfl (Yd.indexArr1' rfl rfl rfl (NatOf.cast 0) (by omega)) (Seg.step rfl rfl (Yd.load1 rfl rfl (hB3.row _ _ rfl)) (Seg.step rfl rfl (Yd.fieldAddr rfl rfl) ?_)))))))
  refine Seg.step rfl rfl (Yd.indexArr1' rfl rfl rfl (NatOf.cast 1) (by omega)) (Seg.step rfl rfl (Yd.load1 rfl rfl (hB3.row _ _ rfl)) (Seg.step rfl rfl (Yd.fieldAddr rfl rfl) (Seg.step rfl rfl (Yd.indexArr1' rfl rfl rfl (NatOf.cast 2) (by omega)) (Seg.step rfl rfl (Yd.load1 rfl rfl (hB3.row _ _ rfl)) (Seg.step rfl rfl (Yd.fieldAddr rfl rfl) (Seg.step rfl rfl (Yd.indexArr1' rfl rfl rfl (NatOf.cast 3) (by omega)) (Seg.step rfl rfl (Yd.load1 rfl rfl (hB3.row _ _ rfl)) ?_)))))))
  (refine Seg.call rfl rfl (own_of rfl) rfl (qof_any _ _ _ _ _) ?_; rintro _ w21 ⟨rfl, hE21⟩)
  replace hE4 := Ext.trans hE4 hE21
  replace hB4 := hB4.ext hE21
  replace hE3 := Ext.trans hE3 hE21
  replace hB3 := hB3.ext hE21
  replace hE0 := Ext.trans hE0 hE21
  refine Seg.storeN rfl rfl rfl rfl hB4 rfl (by first | assumption | exact List.all_eq_true.1 rfl) (fun w22 hW22 hB22 => ?_)
  clear hB4
  replace hE4 := Ext.wr' hE4 hW22 (by omega)
  replace hE3 := Ext.wr' hE3 hW22 (by omega)
  replace hB3 := hB3.wr hW22 (by omega)
  replace hE0 := Ext.wr' hE0 hW22 (by omega)
  refine Seg.nil (At.then_ (Cd.ret ?_))
  exact At.ret Tryz.results107 (.cell rfl (run_loadVarN rfl rfl (show Bx _ _ (adr4 r) by assumption).row) .nil) ⟨rfl, hE0⟩
/-- Is it an address? -/
def AdrOk (r : Rec) : Prop := (r.fam = 4 ∧ r.zone = 0 ∧ ∀ i ∈ [r.i4, r.i5, r.i6, r.i7, r.i8, r.i9, r.i10, r.i11, r.i12, r.i13, r.i14, r.i15], i = 0) ∨ r.fam = 6
def adr4L (r : Rec) : List Lit := [.int .i64 4, .int .u8 r.i0, .int .u8 r.i1, .int .u8 r.i2, .int .u8 r.i3, .int .u8 0, .int .u8 0, .int .u8 0, .int .u8 0, .int .u8 0, .int .u8 0, .int .u8 0, .int .u8 0, .int .u8 0, .int .u8 0, .int .u8 0, .int .u8 0, .int .i64 0]
def rec4 (r : Rec) : Rec := { r with fam := 4, zone := 0, i4 := 0, i5 := 0, i6 := 0, i7 := 0, i8 := 0, i9 := 0, i10 := 0, i11 := 0, i12 := 0, i13 := 0, i14 := 0, i15 := 0 }
theorem wf0_64 : W64 0 := by unfold W64; decide
theorem wf4_64 : W64 4 := by unfold W64; decide
theorem wf0_8 : W8 0 := by unfold W8; decide
theorem rec4_wf {r : Rec} (h : WfR r) : WfR (rec4 r) := by
  obtain ⟨_, _, h3, h4⟩ := h
  simp only [List.mem_cons, List.not_mem_nil, or_false, forall_eq_or_imp, forall_eq] at h3
  refine ⟨wf4_64, wf0_64, ?_, h4⟩
  simp only [rec4, List.mem_cons, List.not_mem_nil, or_false, forall_eq_or_imp, forall_eq]
  exact ⟨h3.1, h3.2.1, h3.2.2.1, h3.2.2.2.1, wf0_8, wf0_8, wf0_8, wf0_8, wf0_8, wf0_8, wf0_8, wf0_8, wf0_8, wf0_8, wf0_8, wf0_8⟩
theorem adr_ok {r : Rec} (h4 : r.fam = 4) (h : r.adr = (rec4 r).adr) : r.fam = 4 ∧ r.zone = 0 ∧ ∀ i ∈ [r.i4, r.i5, r.i6, r.i7, r.i8, r.i9, r.i10, r.i11, r.i12, r.i13, r.i14, r.i15], i = 0 := by
  simp only [Rec.adr, rec4, Prod.mk.injEq, List.cons.injEq, and_true, true_and] at h
  simp only [List.mem_cons, List.not_mem_nil, or_false, forall_eq_or_imp, forall_eq]
  exact ⟨h4, h.2⟩
theorem acheck_any (r : Rec) (w : World) (hw : WfR r) : Ret Tryz.prog 98 #[.agg r.adrV.toArray] w fun v w' => (∃ e, v = .int .i64 e ∧ (e = 0 → AdrOk r)) ∧ Ext w w' := by
  have hE0 := Ext.refl w
  refine Ret.body Tryz.func98 rfl Tryz.ntmps98 rfl (Cd.seq (Cd.region (Seg.box rfl rfl rfl (fun w3 b3 hE3 hB3 hb3 => ?_))))
  have hlt3_0 := Nat.le_trans hE0.size hb3
  replace hE0 := Ext.trans hE0 hE3
  refine Seg.step rfl rfl (Yd.assign rfl) (Seg.nil (At.then_ (Cd.seq (Cd.seq (Cd.region (Seg.step rfl rfl (Yd.fieldAddr rfl rfl) (Seg.step rfl rfl (Yd.load1 rfl rfl (hB3.row _ _ rfl)) ?_)))))))
  refine Seg.nil (At.then_ (Cd.block (Cd.seq (Cd.region (Seg.step rfl rfl (Yd.eql rfl rfl) (Seg.step rfl rfl (Yd.assign rfl) (Seg.nil ?_)))))))
  refine At.then_ ?_
  refine Cd.condk rfl (fun h21 => ?_) (fun h21 => ?_)
  · refine Cd.seq (Cd.quiet (by kernel_rfl) (by kernel_rfl) (SegQ.step rfl rfl (fun w' hw' => Yd.loadN rfl rfl rfl (hB3.ext hw').row) (SegQ.step rfl rfl (fun w' hw' => Yd.loadN rfl rfl rfl (hB3.ext hw').row) (SegQ.call rfl rfl (own_of rfl) rfl (fun w' hw' => (afirst_any r w').mono fun v w2 ⟨hv, h2⟩ => ⟨hv, hw'.trans h2⟩) (SegQ.step rfl rfl (fun w' hw' => (Yd.neqD rfl rfl (by kernel_rfl) (by kernel_rfl) (by kernel_rfl) (by kernel_rfl) (adr_lits r hw) (adr_lits (rec4 r) (rec4_wf hw)) (adr_eq r (rec4 r)))) (SegQ.nil fun w29 hE29 => ?_))))))
    replace hE3 := Ext.trans hE3 hE29
    replace hB3 := hB3.ext hE29
    replace hE0 := Ext.trans hE0 hE29
    refine At.then_ ?_
    refine Cd.condk rfl (fun h31 => ?_) (fun h31 => ?_)
    · refine Cd.seq (Cd.region (Seg.step rfl rfl (Yd.assign rfl) (Seg.nil (At.then_ (Cd.ret (At.blk_ret (At.then_ret ?_)))))))
      first | exact At.ret Tryz.results98 (.tmp rfl .nil) ⟨⟨_, rfl, fun h => absurd h (by decide)⟩, hE0⟩ | exact At.ret Tryz.results98 (.tmp rfl .nil) ⟨⟨_, rfl, fun _ => .inl (adr_ok (by assumption) (by first | assumption | exact Classical.not_not.1 (by assumption)))⟩, hE0⟩ | exact At.ret Tryz.results98 (.tmp rfl .nil) ⟨⟨_, rfl, fun _ => .inr (by assumption)⟩, hE0⟩
    · refine Cd.skip (At.blk (At.then_ (Cd.seq (Cd.region (Seg.step rfl rfl (Yd.assign rfl) (Seg.nil (At.then_ ?_)))))))
      refine Cd.ret ?_
      first | exact At.ret Tryz.results98 (.tmp rfl .nil) ⟨⟨_, rfl, fun h => absurd h (by decide)⟩, hE0⟩ | exact At.ret Tryz.results98 (.tmp rfl .nil) ⟨⟨_, rfl, fun _ => .inl (adr_ok (by assumption) (by first | assumption | exact Classical.not_not.1 (by assumption)))⟩, hE0⟩ | exact At.ret Tryz.results98 (.tmp rfl .nil) ⟨⟨_, rfl, fun _ => .inr (by assumption)⟩, hE0⟩
  · refine Cd.seq (Cd.region (Seg.step rfl rfl (Yd.eql rfl rfl) (Seg.step rfl rfl (Yd.assign rfl) (Seg.nil (At.then_ ?_)))))
    refine Cd.condk rfl (fun h60 => ?_) (fun h60 => ?_)
    · refine Cd.seq (Cd.region (Seg.step rfl rfl (Yd.fieldAddr rfl rfl) (Seg.step rfl rfl (Yd.load1 rfl rfl (hB3.row _ _ rfl)) (Seg.step rfl rfl (Yd.lss rfl rfl) (Seg.step rfl rfl (Yd.move rfl) ?_)))))
      refine Seg.gsplitp rfl rfl (fun h68 => ?_) (fun h68 => ?_)
      · refine Seg.skip rfl rfl (Seg.skip rfl rfl (Seg.skip rfl rfl (Seg.step rfl rfl (Yd.pickT rfl rfl) (Seg.nil (At.then_ (Cd.condT rfl (Cd.seq ?_)))))))
        refine Cd.region (Seg.step rfl rfl (Yd.assign rfl) (Seg.nil (At.then_ (Cd.ret (At.blk_ret (At.then_ret ?_))))))
        first | exact At.ret Tryz.results98 (.tmp rfl .nil) ⟨⟨_, rfl, fun h => absurd h (by decide)⟩, hE0⟩ | exact At.ret Tryz.results98 (.tmp rfl .nil) ⟨⟨_, rfl, fun _ => .inl (adr_ok (by assumption) (by first | assumption | exact Classical.not_not.1 (by assumption)))⟩, hE0⟩ | exact At.ret Tryz.results98 (.tmp rfl .nil) ⟨⟨_, rfl, fun _ => .inr (by assumption)⟩, hE0⟩
      · refine Seg.step rfl rfl (Yd.fieldAddr rfl rfl) (Seg.step rfl rfl (Yd.load1 rfl rfl (hB3.row _ _ rfl)) (Seg.step rfl rfl (Yd.gtr rfl rfl) (Seg.step rfl rfl (Yd.pickF rfl rfl) (Seg.nil (At.then_ ?_)))))
        refine Cd.condk rfl (fun h93 => ?_) (fun h93 => ?_)
        · refine Cd.seq (Cd.region (Seg.step rfl rfl (Yd.assign rfl) (Seg.nil (At.then_ (Cd.ret (At.blk_ret (At.then_ret ?_)))))))
          first | exact At.ret Tryz.results98 (.tmp rfl .nil) ⟨⟨_, rfl, fun h => absurd h (by decide)⟩, hE0⟩ | exact At.ret Tryz.results98 (.tmp rfl .nil) ⟨⟨_, rfl, fun _ => .inl (adr_ok (by assumption) (by first | assumption | exact Classical.not_not.1 (by assumption)))⟩, hE0⟩ | exact At.ret Tryz.results98 (.tmp rfl .nil) ⟨⟨_, rfl, fun _ => .inr (by assumption)⟩, hE0⟩
        · refine Cd.skip (At.blk (At.then_ (Cd.seq (Cd.region (Seg.step rfl rfl (Yd.assign rfl) (Seg.nil (At.then_ ?_)))))))
          refine Cd.ret ?_
          first | exact At.ret Tryz.results98 (.tmp rfl .nil) ⟨⟨_, rfl, fun h => absurd h (by decide)⟩, hE0⟩ | exact At.ret Tryz.results98 (.tmp rfl .nil) ⟨⟨_, rfl, fun _ => .inl (adr_ok (by assumption) (by first | assumption | exact Classical.not_not.1 (by assumption)))⟩, hE0⟩ | exact At.ret Tryz.results98 (.tmp rfl .nil) ⟨⟨_, rfl, fun _ => .inr (by assumption)⟩, hE0⟩
    · refine Cd.seq (Cd.region (Seg.step rfl rfl (Yd.assign rfl) (Seg.nil (At.then_ (Cd.ret (At.blk_ret (At.then_ret ?_)))))))
      first | exact At.ret Tryz.results98 (.tmp rfl .nil) ⟨⟨_, rfl, fun h => absurd h (by decide)⟩, hE0⟩ | exact At.ret Tryz.results98 (.tmp rfl .nil) ⟨⟨_, rfl, fun _ => .inl (adr_ok (by assumption) (by first | assumption | exact Classical.not_not.1 (by assumption)))⟩, hE0⟩ | exact At.ret Tryz.results98 (.tmp rfl .nil) ⟨⟨_, rfl, fun _ => .inr (by assumption)⟩, hE0⟩
/-- Is it an address of a family, without a zone? -/
def AdrIs (r : Rec) (f : Int) : Prop := r.fam = f ∧ r.zone = 0 ∧ (f = 4 → ∀ i ∈ [r.i4, r.i5, r.i6, r.i7, r.i8, r.i9, r.i10, r.i11, r.i12, r.i13, r.i14, r.i15], i = 0)
theorem adr_is {r : Rec} {f : Int} (h : AdrOk r) (hf : r.fam = f) (hz : r.zone = 0) : AdrIs r f := ⟨hf, hz, fun h4 => by
  rcases h with h | h
  · exact h.2.2
  · omega⟩
theorem raddr_any (r : Rec) (f : Int) (w : World) (hw : WfR r) : Ret Tryz.prog 85 #[.agg r.adrV.toArray, .int .i64 f] w fun v w' => (∃ e, v = .int .i64 e ∧ (e = 0 → AdrIs r f)) ∧ Ext w w' := by
  have hE0 := Ext.refl w
  refine Ret.body Tryz.func85 rfl Tryz.ntmps85 rfl (Cd.seq (Cd.region (Seg.box rfl rfl rfl (fun w3 b3 hE3 hB3 hb3 => ?_))))
  have hlt3_0 := Nat.le_trans hE0.size hb3
  replace hE0 := Ext.trans hE0 hE3
  refine Seg.step rfl rfl (Yd.assign rfl) (Seg.nil (At.then_ (Cd.seq (Cd.seq (Cd.region (Seg.step rfl rfl (Yd.loadN rfl rfl rfl hB3.row) ?_))))))
  (refine Seg.call rfl rfl (own_of rfl) rfl (acheck_any r _ hw) ?_; rintro _ w11 ⟨⟨e, rfl, he⟩, hE11⟩)
  replace hE3 := Ext.trans hE3 hE11
  replace hB3 := hB3.ext hE11
  replace hE0 := Ext.trans hE0 hE11
  refine Seg.step rfl rfl (Yd.neq rfl rfl) (Seg.step rfl rfl (Yd.move rfl) ?_)
  refine Seg.gsplitp rfl rfl (fun h14 => ?_) (fun h14 => ?_)
  · refine Seg.skip rfl rfl (Seg.skip rfl rfl (Seg.skip rfl rfl (Seg.skip rfl rfl (Seg.step rfl rfl (Yd.pickT rfl rfl) (Seg.step rfl rfl (Yd.move rfl) (Seg.skip rfl rfl (Seg.skip rfl rfl ?_)))))))
    refine Seg.skip rfl rfl (Seg.step rfl rfl (Yd.pickT rfl rfl) (Seg.nil (At.then_ (Cd.condT rfl (Cd.seq (Cd.region (Seg.step rfl rfl (Yd.assign rfl) ?_)))))))
    refine Seg.nil (At.then_ (Cd.ret (At.then_ret ?_)))
    first | exact At.ret Tryz.results85 (.tmp rfl .nil) ⟨⟨_, rfl, fun h => absurd h (by decide)⟩, hE0⟩ | exact At.ret Tryz.results85 (.tmp rfl .nil) ⟨⟨_, rfl, fun _ => adr_is (he (by omega)) (by omega) (by omega)⟩, hE0⟩
  · refine Seg.step rfl rfl (Yd.fieldAddr rfl rfl) (Seg.step rfl rfl (Yd.load1 rfl rfl (hB3.row _ _ rfl)) (Seg.step rfl rfl (Yd.move rfl) (Seg.step rfl rfl (Yd.neq rfl rfl) (Seg.step rfl rfl (Yd.pickF rfl rfl) (Seg.step rfl rfl (Yd.move rfl) ?_)))))
    refine Seg.gsplitp rfl rfl (fun h44 => ?_) (fun h44 => ?_)
    · refine Seg.skip rfl rfl (Seg.skip rfl rfl (Seg.skip rfl rfl (Seg.step rfl rfl (Yd.pickT rfl rfl) (Seg.nil (At.then_ (Cd.condT rfl (Cd.seq ?_)))))))
      refine Cd.region (Seg.step rfl rfl (Yd.assign rfl) (Seg.nil (At.then_ (Cd.ret (At.then_ret ?_)))))
      first | exact At.ret Tryz.results85 (.tmp rfl .nil) ⟨⟨_, rfl, fun h => absurd h (by decide)⟩, hE0⟩ | exact At.ret Tryz.results85 (.tmp rfl .nil) ⟨⟨_, rfl, fun _ => adr_is (he (by omega)) (by omega) (by omega)⟩, hE0⟩
    · refine Seg.step rfl rfl (Yd.fieldAddr rfl rfl) (Seg.step rfl rfl (Yd.load1 rfl rfl (hB3.row _ _ rfl)) (Seg.step rfl rfl (Yd.neq rfl rfl) (Seg.step rfl rfl (Yd.pickF rfl rfl) (Seg.nil (At.then_ ?_)))))
      refine Cd.condk rfl (fun h68 => ?_) (fun h68 => ?_)
      · refine Cd.seq (Cd.region (Seg.step rfl rfl (Yd.assign rfl) (Seg.nil (At.then_ (Cd.ret (At.then_ret ?_))))))
        first | exact At.ret Tryz.results85 (.tmp rfl .nil) ⟨⟨_, rfl, fun h => absurd h (by decide)⟩, hE0⟩ | exact At.ret Tryz.results85 (.tmp rfl .nil) ⟨⟨_, rfl, fun _ => adr_is (he (by omega)) (by omega) (by omega)⟩, hE0⟩
      · refine Cd.skip (At.then_ (Cd.seq (Cd.region (Seg.step rfl rfl (Yd.assign rfl) (Seg.nil (At.then_ (Cd.ret ?_)))))))
        first | exact At.ret Tryz.results85 (.tmp rfl .nil) ⟨⟨_, rfl, fun h => absurd h (by decide)⟩, hE0⟩ | exact At.ret Tryz.results85 (.tmp rfl .nil) ⟨⟨_, rfl, fun _ => adr_is (he (by omega)) (by omega) (by omega)⟩, hE0⟩
end Go.Proofs.YtahpiaaffeiadaaGreat
