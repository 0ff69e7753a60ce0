/- Records' data written: rdata.putSOA, rdata.Put. -/
import Derived.Test.YtahpiaaffeiadaaGreatZwv
import Derived.Test.YtahpiaaffeiadaaGreatZrk
namespace Go.Proofs.YtahpiaaffeiadaaGreat
open Go Go.RowKit
/-- A record's data can be read in s, from a place to the end. -/
inductive DatRd (s : List UInt8) (at' : Nat) (r : Rec) : Prop
  | a (k : Nat) (hk : kdN r.ty r.cl = 1 ∧ k = 4 ∨ kdN r.ty r.cl = 28 ∧ k = 16) (hl : at' + k = s.length) (h : bytesV (s.drop at') = [.int .u8 r.i0, .int .u8 r.i1, .int .u8 r.i2, .int .u8 r.i3, .int .u8 r.i4, .int .u8 r.i5, .int .u8 r.i6, .int .u8 r.i7, .int .u8 r.i8, .int .u8 r.i9, .int .u8 r.i10, .int .u8 r.i11, .int .u8 r.i12, .int .u8 r.i13, .int .u8 r.i14, .int .u8 r.i15].take k)
  | t {f : Nat} (hk : kdN r.ty r.cl = 5 ∨ kdN r.ty r.cl = 12) (h : Rdn s f at' at' r.tg s.length)
  | s {f : Nat} (hk : kdN r.ty r.cl = 33) (h6 : at' + 6 ≤ s.length) (h1 : r.pri = (deB ((s.drop at').take 2) : Nat)) (h2 : r.wt = (deB ((s.drop (at' + 2)).take 2) : Nat)) (h3 : r.pt = (deB ((s.drop (at' + 4)).take 2) : Nat)) (h : Rdn s f (at' + 6) (at' + 6) r.tg s.length)
  | o {f g e1 e2 : Nat} (hk : kdN r.ty r.cl = 6) (h1 : Rdn s f at' at' r.tg e1) (h2 : Rdn s g e1 e1 r.ml e2) (h3 : e2 + 20 = s.length) (h4 : r.nums = [(deB ((s.drop e2).take 4) : Int), (deB ((s.drop (e2 + 4)).take 4) : Int), (deB ((s.drop (e2 + 8)).take 4) : Int), (deB ((s.drop (e2 + 12)).take 4) : Int), (deB ((s.drop (e2 + 16)).take 4) : Int)])
  | r (hk : kdN r.ty r.cl = 0) (hl : at' + r.raw.length = s.length) (h : s.drop at' = r.raw)
/-- What is written at a place of a message tells a record's data. -/
structure PutD (r : Rec) (at' : Nat) (F : List UInt8 → Option Nat) (out : List UInt8) (F' : List UInt8 → Option Nat) : Prop where
  rd : ∀ X, X.length = at' → TabRd X F → DatRd (X ++ out) at' r ∧ TabRd (X ++ out) F'
theorem Bx.chg {w w' : World} {b bm m : Nat} {cs : List Value} {po : Option Addr} {F : List UInt8 → Option Nat} (h : Bx w b cs) (hT : TabV w po bm m F) (hC : Chg po bm w w') : Bx w' b cs := by
  rcases hT with rfl | ⟨c, rfl, hT⟩
  · exact h.ext (hC.none' rfl)
  · exact h.wr hC.wr (bx_ne_map h hT.2.1)
def numB (l : List Int) : List UInt8 := l.flatMap fun i => beB 4 i.toNat
theorem numB_snoc (l : List Int) (i : Int) : numB (l ++ [i]) = numB l ++ beB 4 i.toNat := by simp [numB]
theorem numB_len (l : List Int) : (numB l).length = 4 * l.length := by
  induction l with
  | nil => rfl
  | cons a l ih => rw [numB, List.flatMap_cons, List.length_append, beB_len, List.length_cons]; rw [numB] at ih; omega
theorem de_mid (X Y : List UInt8) (k v : Nat) (hv : v < 256 ^ k) : deB (((X ++ (beB k v ++ Y)).drop X.length).take k) = v := by
  rw [List.drop_left, List.take_left' (beB_len k v), deB_beB, Nat.mod_eq_of_lt hv]
theorem u32_lt {n : Int} (h : in32 n) : n.toNat < 256 ^ 4 := by
  have := h.2
  have e : (256 : Nat) ^ 4 = 4294967296 := by decide
  have h0 := h.1
  omega
theorem u16_lt {n : Int} (h : in16 n) : n.toNat < 256 ^ 2 := by
  have := h.2
  have e : (256 : Nat) ^ 2 = 65536 := by decide
  have h0 := h.1
  omega
theorem soa_rd {r : Rec} {at' : Nat} {F F1 F2 : List UInt8 → Option Nat} {o1 o2 : List UInt8} (hk : kdN r.ty r.cl = 6) (h1 : PutOk r.tg at' F o1 F1) (h2 : PutOk r.ml (at' + o1.length) F1 o2 F2) (hn : ∀ n ∈ r.nums, in32 n) : PutD r at' F (o1 ++ o2 ++ numB r.nums) F2 where
  rd := fun X hX hT => by
    obtain ⟨⟨f, g1⟩, t1⟩ := h1.rd X hX hT
    obtain ⟨⟨g, g2⟩, t2⟩ := h2.rd (X ++ o1) (by rw [List.length_append, hX]) t1
    have e : X ++ (o1 ++ o2 ++ numB r.nums) = X ++ o1 ++ o2 ++ numB r.nums := by simp
    rw [e]
    refine ⟨?_, t2.more _⟩
    have hl : (X ++ o1 ++ o2).length = at' + o1.length + o2.length := by rw [List.length_append, List.length_append, hX]
    simp only [Rec.nums, List.mem_cons, List.not_mem_nil, or_false, forall_eq_or_imp, forall_eq] at hn
    obtain ⟨k0, k1, k2, k3, k4⟩ := hn
    have en : numB r.nums = beB 4 r.m0.toNat ++ (beB 4 r.m1.toNat ++ (beB 4 r.m2.toNat ++ (beB 4 r.m3.toNat ++ (beB 4 r.m4.toNat ++ [])))) := by simp [numB, Rec.nums]
    have hln := numB_len r.nums
    have hnl : r.nums.length = 5 := rfl
    have z : ∀ {i : Int}, in32 i → ((i.toNat : Nat) : Int) = i := fun h => Int.toNat_of_nonneg h.1
    refine .o (e1 := at' + o1.length) (e2 := at' + o1.length + o2.length) hk (by rw [List.append_assoc]; exact g1.more _) (g2.more _) (by rw [List.length_append, hl]; omega) ?_
    rw [← hl]
    generalize X ++ o1 ++ o2 = Y
    rw [en]
    have q0 := de_mid Y (beB 4 r.m1.toNat ++ (beB 4 r.m2.toNat ++ (beB 4 r.m3.toNat ++ (beB 4 r.m4.toNat ++ [])))) 4 r.m0.toNat (u32_lt k0)
    have q1 := de_mid (Y ++ beB 4 r.m0.toNat) (beB 4 r.m2.toNat ++ (beB 4 r.m3.toNat ++ (beB 4 r.m4.toNat ++ []))) 4 r.m1.toNat (u32_lt k1)
    have q2 := de_mid (Y ++ beB 4 r.m0.toNat ++ beB 4 r.m1.toNat) (beB 4 r.m3.toNat ++ (beB 4 r.m4.toNat ++ [])) 4 r.m2.toNat (u32_lt k2)
    have q3 := de_mid (Y ++ beB 4 r.m0.toNat ++ beB 4 r.m1.toNat ++ beB 4 r.m2.toNat) (beB 4 r.m4.toNat ++ []) 4 r.m3.toNat (u32_lt k3)
    have q4 := de_mid (Y ++ beB 4 r.m0.toNat ++ beB 4 r.m1.toNat ++ beB 4 r.m2.toNat ++ beB 4 r.m3.toNat) [] 4 r.m4.toNat (u32_lt k4)
    simp only [List.length_append, beB_len, List.append_assoc, Nat.add_assoc, Nat.reduceAdd] at q0 q1 q2 q3 q4 ⊢
    rw [q0, q1, q2, q3, q4, z k0, z k1, z k2, z k3, z k4]
    rfl
theorem rsoa_any (a0 : World) (r : Rec) (w : World) (po : Option Addr) (bm m at' : Nat) (F : List UInt8 → Option Nat) (ha : Ext a0 w) (hbm : a0.heap.size ≤ bm) (hr : RecAt a0 r) (hok : RecOk r) (hk : kdN r.ty r.cl = 6) (hT : TabV w po bm m F) (hF : okF F) (hm : m ≤ 900000) (hat : at' ≤ 900000) :
    Ret Tryz.prog 70 #[.agg r.cells.toArray, .int .i64 (at' : Nat), .pointer po] w fun v w' => ∃ out F' m', v = .tuple #[.string ⟨out.toArray⟩, .int .i64 0] ∧ (PutD r at' F out F' ∧ okF F' ∧ out.length ≤ 1000) ∧ TabV w' po bm m' F' ∧ m' ≤ m + 512 ∧ Chg po bm w w' := by
  have hE0 := Ext.refl w
  have hd : chkN r.tg = 0 ∧ chkN r.ml = 0 ∧ ∀ n ∈ r.nums, in32 n := by
    obtain ⟨_, _, _, _, hd⟩ := hok
    cases hd with
    | a f h => rcases h with h | h <;> omega
    | t h => rcases h with h | h <;> omega
    | s h => omega
    | o _ _ h1 h2 _ h3 => exact ⟨h1, h2, h3⟩
    | r h => omega
  obtain ⟨ht, hml, hn⟩ := hd
  have kr : Keep (RecAt a0 r) := hr
  clear hr
  refine Ret.body Tryz.func70 rfl Tryz.ntmps70 rfl (Cd.seq (Cd.region (Seg.box rfl rfl rfl (fun w3 b3 hE3 hB3 hb3 => ?_))))
  have hlt3_0 := Nat.le_trans ha.size hb3
  have hlt3_1 := Nat.le_trans hE0.size hb3
  replace ha := Ext.trans ha hE3
  replace hT := hT.ext hE3
  replace hE0 := Ext.trans hE0 hE3
  refine Seg.step rfl rfl (Yd.assign rfl) (Seg.step rfl rfl (Yd.assign rfl) (Seg.nil (At.then_ (Cd.seq (Cd.region (Seg.step rfl rfl (Yd.move rfl) (Seg.step rfl rfl (Yd.fieldAddr rfl rfl) ?_)))))))
  refine Seg.step rfl rfl (Yd.load1 rfl rfl (hB3.row _ _ rfl)) (Seg.step rfl rfl (Yd.move rfl) ?_)
  (refine Seg.call rfl rfl (own_of rfl) rfl (tput_any r.tg r.vt _ po bm m at' F (Sl.ext (show NameAt a0 r.vt r.tg from kr.2.1) ha) ht hT hF (by omega) (by omega)) ?_; rintro _ w14 ⟨o1, F1, m1, rfl, hP1, hT1, hm1, hC1⟩; have hl1 := hP1.len; have ha1 : Ext a0 w14 := Ext.wr' ha hC1.wr hbm; have hB1 := Bx.chg hB3 hT hC1; have kC : Keep (Chg po bm w w14) := (Chg.of hE0).trans hC1; clear hB3 hT ha hE0 hC1; have hEn := Ext.refl w14)
  refine Seg.step rfl rfl (Yd.move rfl) (Seg.step rfl rfl (Yd.extract rfl rfl) (Seg.step rfl rfl (Yd.extract rfl rfl) (Seg.step rfl rfl (Yd.assign rfl) (Seg.step rfl rfl (Yd.assign rfl) (Seg.nil (At.then_ (Cd.seq ?_)))))))
  refine Cd.seq (Cd.region (Seg.step rfl rfl (Yd.move rfl) (Seg.step rfl rfl (Yd.neq rfl rfl) (Seg.nil (At.then_ (Cd.condF rfl (Cd.skip ?_)))))))
  refine At.then_ (Cd.seq (Cd.region (Seg.step rfl rfl (Yd.move rfl) (Seg.step rfl rfl (Yd.fieldAddr rfl rfl) (Seg.step rfl rfl (Yd.load1 rfl rfl (hB1.row _ _ rfl)) (Seg.step rfl rfl (Yd.move rfl) (Seg.step rfl rfl (Yd.move rfl) ?_)))))))
  refine Seg.step rfl rfl (Yd.lenStr rfl rfl) (Seg.step rfl rfl (Yd.addI rfl rfl (by omega)) ?_)
  (refine Seg.call rfl rfl (own_of rfl) rfl (tput_any r.ml r.vm _ po bm m1 (at' + o1.length) F1 (Sl.ext (show NameAt a0 r.vm r.ml from kr.2.2) ha1) hml hT1 hP1.ok (by omega) (by omega)) ?_; rintro _ w41 ⟨o2, F2, m2, rfl, hP2, hT2, hm2, hC2⟩; have hl2 := hP2.len; have ha2 : Ext a0 w41 := Ext.wr' ha1 hC2.wr hbm; have hB2 := Bx.chg hB1 hT1 hC2; have kC2 : Keep (Chg po bm w w41) := kC.trans ((Chg.of hEn).trans hC2); clear hB1 hT1 ha1 hEn hC2; have hEm := Ext.refl w41)
  refine Seg.step rfl rfl (Yd.move rfl) (Seg.step rfl rfl (Yd.extract rfl rfl) (Seg.step rfl rfl (Yd.extract rfl rfl) (Seg.step rfl rfl (Yd.assign rfl) (Seg.step rfl rfl (Yd.assign rfl) (Seg.nil (At.then_ (Cd.seq ?_)))))))
  refine Cd.seq (Cd.region (Seg.step rfl rfl (Yd.move rfl) (Seg.step rfl rfl (Yd.neq rfl rfl) (Seg.nil (At.then_ (Cd.condF rfl (Cd.skip ?_)))))))
  refine At.then_ (Cd.seq (Cd.region (Seg.step rfl rfl (Yd.move rfl) (Seg.step rfl rfl (Yd.move rfl) (Seg.step rfl rfl (Yd.addS rfl rfl (by omega)) (Seg.step rfl rfl (Yd.assign rfl) (Seg.nil ?_)))))))
  refine At.then_ (Cd.seq (Cd.seq (Cd.region (Seg.step rfl rfl (Yd.fieldAddr rfl rfl) (Seg.step rfl rfl (Yd.loadN rfl rfl rfl (show Row _ (Addr.add ⟨b3, 0, none⟩ 27) r.numV from hB2.row.part 27 5)) (Seg.step rfl rfl (Yd.move rfl) (Seg.nil ?_)))))))
  refine At.then_ (Cd.block ?_)
  refine Cd.loop (σ := Nat) (fun t => [(11, .string ⟨(o1 ++ o2 ++ numB (r.nums.take t)).toArray⟩), (43, .agg r.numV.toArray), (44, .int .i64 (t : Int))]) (fun t w' => t ≤ 5 ∧ Ext w41 w') (fun t => 5 - t) 0 (by rw [List.take_zero, show numB [] = [] from rfl, List.append_nil]; exact (.cons rfl (.cons rfl (.cons rfl (.nil _))))) ⟨Nat.zero_le _, hEm⟩ ?_
  clear hEm ha2
  rintro i w1 ⟨hi, hEm⟩
  have hnl : r.nums.length = 5 := rfl
  have hln := numB_len (r.nums.take i)
  rw [List.length_take] at hln
  by_cases hlt : i < 5
  · obtain ⟨n, hni⟩ : ∃ n, r.nums[i]? = some n := ⟨_, List.getElem?_eq_getElem (by omega)⟩
    have hnv : r.numV[i]? = some (.int .i64 n) := by
      have e : r.numV = intL r.nums := rfl
      rw [e]; exact intL_at hni
    have hn4 := hn n (List.mem_of_getElem? hni)
    have hnb := beB_len 4 n.toNat
    have hst : o1 ++ o2 ++ numB (r.nums.take i) ++ beB 4 n.toNat = o1 ++ o2 ++ numB (r.nums.take (i + 1)) := by rw [take_snoc hni, numB_snoc]; simp
    have hsl : (o1 ++ o2 ++ numB (r.nums.take i)).length + (beB 4 n.toNat).length ≤ 9223372036854775807 := by rw [List.length_append, List.length_append]; omega
    refine Cd.seq (Cd.region (Seg.step rfl rfl (Yd.lss rfl rfl) (Seg.nil (At.then_ (Cd.seq ?_)))))
    refine Cd.condk rfl (fun h48 => ?_) (fun h48 => ?_)
    · refine Cd.skip (At.then_ (Cd.seq (Cd.block (Cd.seq (Cd.region ?_)))))
      (refine Seg.step rfl rfl (Yd.indexV rfl rfl rfl rfl (NatOf.cast _) hlt hnv) ?_)
      refine Seg.step rfl rfl (Yd.assign rfl) (Seg.nil (At.then_ (Cd.region (Seg.step rfl rfl (Yd.move rfl) (Seg.step rfl rfl (Yd.move rfl) ?_)))))
      (refine Seg.call rfl rfl (own_of rfl) rfl (oputI 4 n _ (by decide) hn4.1 (by have := hn4.2; omega)) ?_; rintro _ w63 ⟨rfl, hE63⟩)
      replace hEm := Ext.trans hEm hE63
      first | (refine Seg.step rfl rfl (Yd.addS (l := o1 ++ o2 ++ numB (r.nums.take i)) (m := beB 4 n.toNat) rfl rfl hsl) ?_; rw [hst])
      refine Seg.step rfl rfl (Yd.assign rfl) (Seg.nil (At.blk (At.then_ (Cd.region (Seg.step rfl rfl (Yd.addI rfl rfl (by omega)) (Seg.step rfl rfl (Yd.move rfl) (Seg.nil ?_)))))))
      exact At.round (i + 1) (.cons rfl (.cons rfl (.cons rfl (.nil _)))) ⟨hlt, hEm⟩ (Nat.sub_lt_sub_left hlt (Nat.lt_succ_self i))
    · exfalso; omega
  · obtain rfl : i = 5 := by omega
    have hol : (o1 ++ o2 ++ numB r.nums).length ≤ 1000 := by rw [List.length_append, List.length_append, numB_len]; omega
    rw [show r.nums.take 5 = r.nums from rfl]
    refine Cd.seq (Cd.region (Seg.step rfl rfl (Yd.lss rfl rfl) (Seg.nil (At.then_ (Cd.seq (Cd.condF rfl (Cd.exit ?_)))))))
    refine At.then_exit (At.then_exit (At.blk_same (At.then_ (Cd.seq (Cd.region (Seg.step rfl rfl (Yd.move rfl) (Seg.step rfl rfl (Yd.assign rfl) ?_)))))))
    refine Seg.step rfl rfl (Yd.assign rfl) (Seg.nil (At.then_ (Cd.ret ?_)))
    exact At.ret Tryz.results70 (.tmp rfl (.tmp rfl .nil)) ⟨_, F2, m2, rfl, ⟨soa_rd hk hP1 hP2 hn, hP2.ok, hol⟩, TabV.ext hT2 hEm, by omega, kC2.trans (Chg.of hEm)⟩
theorem Yd.slArH {P : Program} [Tys P] {n : Fm} {fr : Fr} {w : World} {T : TypeId} {x z : Operand} {p : Addr} {U m e s hi : Nat} {q : IntKind} {j : Int} (hU : arOf P U = some (m, e, s)) (hx : Fr.ev fr x = some (.pointer (some p))) (hz : Fr.ev fr z = some (.int q j)) (hj : NatOf j hi) (hm : hi ≤ m) :
    Yd P n (.slice U x none (some z) none) T fr w (.slice (some p) hi m) w :=
  .val fun a ha _ _ _ _ => by
    obtain ⟨h2, h3⟩ := und_ar hU
    have hj' : j = (hi : Int) := hj
    subst hj'
    simp [execOp, Instr.sliceAt, Instr.sliceBounds, Instr.sliceBound, asIntOf, run_underlying h2, ha.ev hx, ha.ev hz, Instr.sureAddr, h3, Addr.add0, hm]
end Go.Proofs.YtahpiaaffeiadaaGreat
