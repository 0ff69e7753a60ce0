/- Names read: packed.reader.read. -/
import Derived.Test.YtahpiaaffeiadaaGreatEpg
namespace Go.Proofs.YtahpiaaffeiadaaGreat
open Go Go.RowKit
/-- In s, at this place, below this bound, this name can be read, with its end behind there. -/
inductive Rdn (s : List UInt8) : Nat → Nat → Nat → List (List UInt8) → Nat → Prop
  | zero {a bd : Nat} (ha : a < s.length) (h : (s.getD a 0).toNat = 0) : Rdn s 0 a bd [] (a + 1)
  | lab {f a bd b : Nat} {n : List (List UInt8)} (k : Nat) (ha : a < s.length) (h : (s.getD a 0).toNat = k) (h1 : 1 ≤ k) (h2 : k ≤ 63) (h3 : a + 1 + k ≤ s.length) (hr : Rdn s f (a + 1 + k) bd n b) : Rdn s (f + 1) a bd ((s.drop (a + 1)).take k :: n) b
  | ptr {f a bd b : Nat} {n : List (List UInt8)} (to : Nat) (ha : a + 1 < s.length) (h : (s.getD a 0).toNat * 256 + (s.getD (a + 1) 0).toNat = 49152 + to) (h1 : 192 ≤ (s.getD a 0).toNat) (h2 : to < bd) (hr : Rdn s f to to n b) : Rdn s (f + 1) a bd n (a + 2)
theorem szN_app (a b : List (List UInt8)) : szN (a ++ b) + 1 = szN a + szN b := by
  unfold szN
  rw [List.map_append, List.sum_append]
  omega
theorem szN_cons (l : List UInt8) (b : List (List UInt8)) : szN (l :: b) = szN b + (l.length + 1) := by
  unfold szN
  rw [List.map_cons, List.sum_cons]
  omega
structure NmRd where
  f : Nat
  at' : Nat
  bd : Nat
  bh : Int
  acc : List (List UInt8)
  rest : List (List UInt8)
  b : Nat
  v : Value
theorem rread_any (a0 : World) (s : List UInt8) (p base f0 at0 : Nat) (n : List (List UInt8)) (b0 : Nat) (w : World) (hR : Rdn s f0 at0 at0 n b0) (hB : Bx w p [.string ⟨s.toArray⟩, .int .i64 (at0 : Int), .int .i64 ((1 : Nat) : Int), .slice none 0 0]) (ha : Ext a0 w) (hp : a0.heap.size ≤ p) (hab : a0.heap.size ≤ base) (hb : base ≤ w.heap.size) (hl : s.length ≤ 65535) (hz : szN n ≤ 255) :
    Ret Tryz.prog 89 #[.pointer (some ⟨p, 0, none⟩)] w fun v w' => v = .int .i64 (b0 : Int) ∧ (∃ a sz v', Bx w' p [.string ⟨s.toArray⟩, a, sz, v'] ∧ OwnS w' base v' n) ∧ Ext a0 w' ∧ w.heap.size ≤ w'.heap.size := by
  have hE0 := Ext.refl w
  refine Ret.body Tryz.func89 rfl Tryz.ntmps89 rfl (Cd.seq (Cd.region (Seg.step rfl rfl (Yd.assign rfl) (Seg.nil (At.then_ (Cd.seq (Cd.region ?_)))))))
  refine Seg.step rfl rfl (Yd.assign rfl) (Seg.nil (At.then_ (Cd.seq (Cd.region (Seg.step rfl rfl (Yd.move rfl) (Seg.step rfl rfl (Yd.nilCheckP rfl) (Seg.step rfl rfl (Yd.fieldAddr rfl rfl) ?_)))))))
  refine Seg.step rfl rfl (Yd.load1 rfl rfl (hB.row _ _ rfl)) (Seg.step rfl rfl (Yd.assign rfl) (Seg.nil (At.then_ (Cd.block ?_))))
  refine Cd.loop (σ := NmRd) (fun t => [(0, .pointer (some ⟨p, 0, none⟩)), (3, .int .i64 t.bh), (4, .int .i64 (t.bd : Int))])
    (fun t w' => (Rdn s t.f t.at' t.bd t.rest t.b ∧ t.acc ++ t.rest = n ∧ ((t.bh = -1 ∧ t.b = b0) ∨ t.bh = (b0 : Int))) ∧ Bx w' p [.string ⟨s.toArray⟩, .int .i64 (t.at' : Int), .int .i64 ((szN t.acc : Nat) : Int), t.v] ∧ (OwnS w' base t.v t.acc ∧ t.v.ownBlock ≠ some p) ∧ Ext a0 w' ∧ w.heap.size ≤ w'.heap.size)
    (fun t => t.f) ⟨f0, at0, at0, -1, [], n, b0, .slice none 0 0⟩ (.cons rfl (.cons rfl (.cons rfl (.nil _)))) ⟨⟨hR, rfl, .inl ⟨rfl, rfl⟩⟩, hB, ⟨World.ownsRow_nil _ _ _ _, fun h => by cases h⟩, ha, Nat.le_refl _⟩ ?_
  clear hE0 hB ha hR
  rintro ⟨f, at', bd, bh, acc, rest, b, v⟩ w1 ⟨⟨hR, hac, hbh⟩, hB, ⟨hO, hoff⟩, ha, hs1⟩
  simp only at hR hac hbh hB hO hoff ⊢
  have kO : Keep (OwnS w1 base v acc) := hO
  have hEn := Ext.refl w1
  have hb1 : base ≤ w1.heap.size := Nat.le_trans hb hs1
  clear hO
  have hszn := szN_app acc rest
  rw [hac] at hszn
  cases hR with
  | zero hat h0 =>
    have hoc := fun w' hB' => roctet_any s p at' (szN acc) v w' hB' hat (by omega)
    rw [h0] at hoc
    have hna : acc = n := by rw [← hac, List.append_nil]
    subst hna
    have hz0 : ((0 : Nat) : Int) = 0 := rfl
    rcases hbh with ⟨rfl, rfl⟩ | rfl
    · have hb0 : (-1 : Int) < 0 := by decide
      refine Cd.block (Cd.seq (Cd.region (Seg.step rfl rfl (Yd.move rfl) ?_)))
      (refine Seg.call rfl rfl (own_of rfl) rfl (hoc _ hB) ?_; rintro _ w6 ⟨rfl, hW6, hB6⟩; have kO2 : Keep (OwnS w6 base v acc) := own_wr kO hW6 hoff; have ha2 : Keep (Ext a0 w6) := Ext.wr' ha hW6 hp; have hs2 : Keep (w.heap.size ≤ w6.heap.size) := Nat.le_trans hs1 hW6.size; have hEm := Ext.refl w6; clear hB ha hEn hs1 hW6 kO)
      refine Seg.step rfl rfl (Yd.assign rfl) (Seg.nil (At.then_ (Cd.block (Cd.seq (Cd.region (Seg.step rfl rfl (Yd.move rfl) (Seg.step rfl rfl (Yd.eql rfl rfl) ?_)))))))
      refine Seg.step rfl rfl (Yd.assign rfl) (Seg.nil (At.then_ (Cd.condT rfl (Cd.seq (Cd.seq (Cd.region (Seg.step rfl rfl (Yd.move rfl) ?_)))))))
      refine Seg.step rfl rfl (Yd.lss rfl rfl) (Seg.nil (At.then_ (Cd.condT rfl (Cd.region (Seg.step rfl rfl (Yd.move rfl) (Seg.step rfl rfl (Yd.nilCheckP rfl) (Seg.step rfl rfl (Yd.fieldAddr rfl rfl) ?_)))))))
      refine Seg.step rfl rfl (Yd.load1 rfl rfl (hB6.row _ _ rfl)) (Seg.step rfl rfl (Yd.assign rfl) (Seg.nil (At.then_ (Cd.seq (Cd.region (Seg.step rfl rfl (Yd.move rfl) (Seg.step rfl rfl (Yd.assign rfl) ?_)))))))
      refine Seg.nil (At.then_ (Cd.ret (At.blk_ret (At.blk_ret (At.then_ret (At.blk_ret ?_))))))
      exact At.ret Tryz.results89 (.tmp rfl .nil) ⟨rfl, ⟨_, _, v, by assumption, own_ext kO2 hEm⟩, Ext.trans ha2 hEm, Nat.le_trans hs2 (Below.size hEm)⟩
    · have hb0 : ¬ (b0 : Int) < 0 := by omega
      refine Cd.block (Cd.seq (Cd.region (Seg.step rfl rfl (Yd.move rfl) ?_)))
      (refine Seg.call rfl rfl (own_of rfl) rfl (hoc _ hB) ?_; rintro _ w6 ⟨rfl, hW6, hB6⟩; have kO2 : Keep (OwnS w6 base v acc) := own_wr kO hW6 hoff; have ha2 : Keep (Ext a0 w6) := Ext.wr' ha hW6 hp; have hs2 : Keep (w.heap.size ≤ w6.heap.size) := Nat.le_trans hs1 hW6.size; have hEm := Ext.refl w6; clear hB ha hEn hs1 hW6 kO)
      refine Seg.step rfl rfl (Yd.assign rfl) (Seg.nil (At.then_ (Cd.block (Cd.seq (Cd.region (Seg.step rfl rfl (Yd.move rfl) (Seg.step rfl rfl (Yd.eql rfl rfl) ?_)))))))
      refine Seg.step rfl rfl (Yd.assign rfl) (Seg.nil (At.then_ (Cd.condT rfl (Cd.seq (Cd.seq (Cd.region (Seg.step rfl rfl (Yd.move rfl) ?_)))))))
      refine Seg.step rfl rfl (Yd.lss rfl rfl) (Seg.nil (At.then_ (Cd.condF rfl (Cd.skip (At.then_ (Cd.seq (Cd.region ?_)))))))
      refine Seg.step rfl rfl (Yd.move rfl) (Seg.step rfl rfl (Yd.assign rfl) (Seg.nil (At.then_ (Cd.ret (At.blk_ret (At.blk_ret (At.then_ret ?_)))))))
      refine At.blk_ret ?_
      exact At.ret Tryz.results89 (.tmp rfl .nil) ⟨rfl, ⟨_, _, v, by assumption, own_ext kO2 hEm⟩, Ext.trans ha2 hEm, Nat.le_trans hs2 (Below.size hEm)⟩
  | lab k hat h0 h1 h2 h3 hr =>
    rename_i f n'
    have hoc := fun w' hB' => roctet_any s p at' (szN acc) v w' hB' hat (by omega)
    rw [h0] at hoc
    have hk0 : ¬ (k : Int) = 0 := by omega
    have hk63 : (k : Int) ≤ 63 := by omega
    have hll : ((s.drop (at' + 1)).take k).length = k := by rw [List.length_take, List.length_drop]; omega
    have hs3 := szN_app acc [(s.drop (at' + 1)).take k]
    rw [szN_cons, hll] at hs3
    have hs4 : szN (acc ++ [(s.drop (at' + 1)).take k]) = szN acc + (k + 1) := by have : szN [] = 1 := rfl; omega
    rw [szN_cons, hll] at hszn
    have hacl := szN_len acc
    have hac2 : (acc ++ [(s.drop (at' + 1)).take k]) ++ n' = n := by rw [List.append_assoc]; exact hac
    have hn1 : 1 ≤ szN n' := by unfold szN; omega
    refine Cd.block (Cd.seq (Cd.region (Seg.step rfl rfl (Yd.move rfl) ?_)))
    (refine Seg.call rfl rfl (own_of rfl) rfl (hoc _ hB) ?_; rintro _ w68 ⟨rfl, hW68, hB68⟩; have kO2 : Keep (OwnS w68 base v acc) := own_wr kO hW68 hoff; have ha2 : Keep (Ext a0 w68) := Ext.wr' ha hW68 hp; have hs2 : Keep (w.heap.size ≤ w68.heap.size) := Nat.le_trans hs1 hW68.size; have hEm := Ext.refl w68; clear hB ha hEn hs1 hW68 kO)
    refine Seg.step rfl rfl (Yd.assign rfl) (Seg.nil (At.then_ (Cd.block (Cd.seq (Cd.region (Seg.step rfl rfl (Yd.move rfl) (Seg.step rfl rfl (Yd.eql rfl rfl) ?_)))))))
    refine Seg.step rfl rfl (Yd.assign rfl) (Seg.nil (At.then_ ?_))
    refine Cd.condk rfl (fun h80 => ?_) (fun h80 => ?_)
    · exfalso; omega
    · refine Cd.seq (Cd.region (Seg.step rfl rfl (Yd.move rfl) (Seg.step rfl rfl (Yd.leq rfl rfl) (Seg.step rfl rfl (Yd.assign rfl) (Seg.nil (At.then_ ?_))))))
      refine Cd.condk rfl (fun h89 => ?_) (fun h89 => ?_)
      · refine Cd.region (Seg.step rfl rfl (Yd.move rfl) (Seg.step rfl rfl (Yd.move rfl) ?_))
        (refine Seg.call rfl rfl (own_of rfl) rfl (rlabel_any a0 s p base (at' + 1) (szN acc) k v acc _ (by assumption) (own_ext kO2 hEm) (Ext.trans ha2 hEm) hp hab (Nat.le_trans hb (Nat.le_trans hs2 (Below.size hEm))) hoff h3 (by omega) (by omega) (by omega)) ?_; rintro _ w94 ⟨v2, hB94, hO94, hof94, hE94, hS94⟩; have kO3 : Keep (OwnS w94 base v2 _) := hO94; have kE3 : Keep (Ext a0 w94) := hE94; have hS3 : Keep (w.heap.size ≤ w94.heap.size) := Nat.le_trans (Nat.le_trans hs2 (Below.size hEm)) hS94; rw [← hs4] at hB94; have hEq := Ext.refl w94; clear hEm kO2 ha2 hs2 hO94 hE94)
        refine Seg.nil (At.blk (At.blk ?_))
        exact At.round (⟨f, at' + 1 + k, bd, bh, acc ++ [(s.drop (at' + 1)).take k], n', b, v2⟩ : NmRd) (.cons rfl (.cons rfl (.cons rfl (.nil _)))) ⟨⟨hr, hac2, hbh⟩, by assumption, ⟨own_ext kO3 hEq, by assumption⟩, Ext.trans kE3 hEq, Nat.le_trans hS3 (Below.size hEq)⟩ (Nat.lt_succ_self f)
      · exfalso; omega
  | ptr to hat h0 h1 h2 hr =>
    rename_i f b'
    obtain ⟨c0, hc0⟩ : ∃ c, c = (s.getD at' 0).toNat := ⟨_, rfl⟩
    obtain ⟨c1, hc1⟩ : ∃ c, c = (s.getD (at' + 1) 0).toNat := ⟨_, rfl⟩
    have hoc := fun w' hB' => roctet_any s p at' (szN acc) v w' hB' (by omega) (by omega)
    have hoc2 := fun w' hB' => roctet_any s p (at' + 1) (szN acc) v w' hB' (by omega) (by omega)
    rw [← hc0] at hoc h0 h1
    rw [← hc1] at hoc2 h0
    have hlt0 : c0 < 256 := by rw [hc0]; exact byte_lt _
    have hw : IntKind.i64.wrap ((c0 : Int) * 2 ^ 8) = (c0 : Int) * 2 ^ 8 := IntWalk.i64_in _ ⟨by omega, by omega⟩
    have hlt1 : c1 < 256 := by rw [hc1]; exact byte_lt _
    have htv : (c0 : Int) * 2 ^ 8 + (c1 : Int) - 49152 = (to : Int) := by omega
    have hbd2 : -9223372036854775808 ≤ (c0 : Int) * 2 ^ 8 + (c1 : Int) ∧ (c0 : Int) * 2 ^ 8 + (c1 : Int) ≤ 9223372036854775807 := by omega
    have hbd3 : -9223372036854775808 ≤ (c0 : Int) * 2 ^ 8 + (c1 : Int) - 49152 ∧ (c0 : Int) * 2 ^ 8 + (c1 : Int) - 49152 ≤ 9223372036854775807 := by omega
    have hk0 : ¬ (c0 : Int) = 0 := by omega
    have hk63 : ¬ (c0 : Int) ≤ 63 := by omega
    have hk192 : ¬ (c0 : Int) < 192 := by omega
    have hbd : ¬ (bd : Int) ≤ (to : Int) := by omega
    rcases hbh with ⟨rfl, rfl⟩ | rfl
    · have hb0 : (-1 : Int) < 0 := by decide
      refine Cd.block (Cd.seq (Cd.region (Seg.step rfl rfl (Yd.move rfl) ?_)))
      (refine Seg.call rfl rfl (own_of rfl) rfl (hoc _ hB) ?_; rintro _ w197 ⟨rfl, hW197, hB197⟩; have kO2 : Keep (OwnS w197 base v acc) := own_wr kO hW197 hoff; have ha2 : Keep (Ext a0 w197) := Ext.wr' ha hW197 hp; have hs2 : Keep (w.heap.size ≤ w197.heap.size) := Nat.le_trans hs1 hW197.size; have hBo := hB197; have hEm := Ext.refl w197; clear hB ha hEn hs1 hW197 kO hB197)
      refine Seg.step rfl rfl (Yd.assign rfl) (Seg.nil (At.then_ (Cd.block (Cd.seq (Cd.region (Seg.step rfl rfl (Yd.move rfl) (Seg.step rfl rfl (Yd.eql rfl rfl) ?_)))))))
      refine Seg.step rfl rfl (Yd.assign rfl) (Seg.nil (At.then_ ?_))
      refine Cd.condk rfl (fun h209 => ?_) (fun h209 => ?_)
      · exfalso; omega
      · refine Cd.seq (Cd.region (Seg.step rfl rfl (Yd.move rfl) (Seg.step rfl rfl (Yd.leq rfl rfl) (Seg.step rfl rfl (Yd.assign rfl) (Seg.nil (At.then_ ?_))))))
        refine Cd.condk rfl (fun h218 => ?_) (fun h218 => ?_)
        · exfalso; omega
        · refine Cd.seq (Cd.region (Seg.step rfl rfl (Yd.move rfl) (Seg.step rfl rfl (Yd.lss rfl rfl) (Seg.step rfl rfl (Yd.assign rfl) (Seg.nil (At.then_ ?_))))))
          refine Cd.condk rfl (fun h227 => ?_) (fun h227 => ?_)
          · exfalso; omega
          · refine Cd.seq (Cd.region (Seg.step rfl rfl (Yd.move rfl) ?_))
            first | (refine Seg.step rfl rfl (Yd.shl (by decide) rfl rfl rfl hw) ?_) | (refine Seg.step rfl rfl (Yd.addI rfl rfl hbd2) ?_) | (refine Seg.step rfl rfl (Yd.subI rfl rfl hbd3) ?_; rw [htv])
            refine Seg.step rfl rfl (Yd.move rfl) ?_
            (refine Seg.call rfl rfl (own_of rfl) rfl (hoc2 _ hBo) ?_; rintro _ w234 ⟨rfl, hW234, hB234⟩; have kO3 : Keep (OwnS w234 base v acc) := own_wr (own_ext kO2 hEm) hW234 hoff; have ha3 : Keep (Ext a0 w234) := Ext.wr' (Ext.trans ha2 hEm) hW234 hp; have hs3 : Keep (w.heap.size ≤ w234.heap.size) := Nat.le_trans (Nat.le_trans hs2 (Below.size hEm)) hW234.size; have hWo := Ext.wr (Ext.refl w234) p; clear hBo hEm hW234 kO2 ha2 hs2)
            first | (refine Seg.step rfl rfl (Yd.shl (by decide) rfl rfl rfl hw) ?_) | (refine Seg.step rfl rfl (Yd.addI rfl rfl hbd2) ?_) | (refine Seg.step rfl rfl (Yd.subI rfl rfl hbd3) ?_; rw [htv])
            first | (refine Seg.step rfl rfl (Yd.shl (by decide) rfl rfl rfl hw) ?_) | (refine Seg.step rfl rfl (Yd.addI rfl rfl hbd2) ?_) | (refine Seg.step rfl rfl (Yd.subI rfl rfl hbd3) ?_; rw [htv])
            refine Seg.step rfl rfl (Yd.assign rfl) (Seg.nil (At.then_ (Cd.seq (Cd.seq (Cd.region (Seg.step rfl rfl (Yd.move rfl) (Seg.step rfl rfl (Yd.move rfl) ?_)))))))
            refine Seg.step rfl rfl (Yd.geq rfl rfl) (Seg.nil (At.then_ ?_))
            refine Cd.condk rfl (fun h248 => ?_) (fun h248 => ?_)
            · exfalso; omega
            · refine Cd.skip (At.then_ (Cd.seq (Cd.seq (Cd.region (Seg.step rfl rfl (Yd.move rfl) (Seg.step rfl rfl (Yd.lss rfl rfl) (Seg.nil ?_)))))))
              refine At.then_ (Cd.condT rfl (Cd.region (Seg.step rfl rfl (Yd.move rfl) (Seg.step rfl rfl (Yd.nilCheckP rfl) (Seg.step rfl rfl (Yd.fieldAddr rfl rfl) (Seg.step rfl rfl (Yd.load1 rfl rfl (hB234.row _ _ rfl)) (Seg.step rfl rfl (Yd.assign rfl) ?_)))))))
              refine Seg.nil (At.then_ (Cd.seq (Cd.region (Seg.step rfl rfl (Yd.move rfl) (Seg.step rfl rfl (Yd.assign rfl) (Seg.nil (At.then_ ?_)))))))
              refine Cd.region (Seg.step rfl rfl (Yd.move rfl) (Seg.step rfl rfl (Yd.move rfl) (Seg.step rfl rfl (Yd.nilCheckP rfl) (Seg.step rfl rfl (Yd.fieldAddr rfl rfl) ?_))))
              refine Seg.store1 rfl rfl rfl rfl rfl hB234 (by first | omega | (simp; done) | exact Nat.le_of_ble_eq_true rfl) (fun w279 hW279 hB279 => ?_)
              clear hB234
              replace hWo := Wr.trans hWo hW279
              refine Seg.nil (At.blk (At.blk ?_))
              exact At.round (⟨f, to, to, _, acc, rest, b', v⟩ : NmRd) (.cons rfl (.cons rfl (.cons rfl (.nil _)))) ⟨⟨hr, hac, .inr rfl⟩, by assumption, ⟨own_wr kO3 hWo hoff, hoff⟩, Ext.wr' ha3 hWo hp, Nat.le_trans hs3 hWo.size⟩ (Nat.lt_succ_self f)
    · have hb0 : ¬ (b0 : Int) < 0 := by omega
      refine Cd.block (Cd.seq (Cd.region (Seg.step rfl rfl (Yd.move rfl) ?_)))
      (refine Seg.call rfl rfl (own_of rfl) rfl (hoc _ hB) ?_; rintro _ w197 ⟨rfl, hW197, hB197⟩; have kO2 : Keep (OwnS w197 base v acc) := own_wr kO hW197 hoff; have ha2 : Keep (Ext a0 w197) := Ext.wr' ha hW197 hp; have hs2 : Keep (w.heap.size ≤ w197.heap.size) := Nat.le_trans hs1 hW197.size; have hBo := hB197; have hEm := Ext.refl w197; clear hB ha hEn hs1 hW197 kO hB197)
      refine Seg.step rfl rfl (Yd.assign rfl) (Seg.nil (At.then_ (Cd.block (Cd.seq (Cd.region (Seg.step rfl rfl (Yd.move rfl) (Seg.step rfl rfl (Yd.eql rfl rfl) ?_)))))))
      refine Seg.step rfl rfl (Yd.assign rfl) (Seg.nil (At.then_ ?_))
      refine Cd.condk rfl (fun h209 => ?_) (fun h209 => ?_)
      · exfalso; omega
      · refine Cd.seq (Cd.region (Seg.step rfl rfl (Yd.move rfl) (Seg.step rfl rfl (Yd.leq rfl rfl) (Seg.step rfl rfl (Yd.assign rfl) (Seg.nil (At.then_ ?_))))))
        refine Cd.condk rfl (fun h218 => ?_) (fun h218 => ?_)
        · exfalso; omega
        · refine Cd.seq (Cd.region (Seg.step rfl rfl (Yd.move rfl) (Seg.step rfl rfl (Yd.lss rfl rfl) (Seg.step rfl rfl (Yd.assign rfl) (Seg.nil (At.then_ ?_))))))
          refine Cd.condk rfl (fun h227 => ?_) (fun h227 => ?_)
          · exfalso; omega
          · refine Cd.seq (Cd.region (Seg.step rfl rfl (Yd.move rfl) ?_))
            first | (refine Seg.step rfl rfl (Yd.shl (by decide) rfl rfl rfl hw) ?_) | (refine Seg.step rfl rfl (Yd.addI rfl rfl hbd2) ?_) | (refine Seg.step rfl rfl (Yd.subI rfl rfl hbd3) ?_; rw [htv])
            refine Seg.step rfl rfl (Yd.move rfl) ?_
            (refine Seg.call rfl rfl (own_of rfl) rfl (hoc2 _ hBo) ?_; rintro _ w234 ⟨rfl, hW234, hB234⟩; have kO3 : Keep (OwnS w234 base v acc) := own_wr (own_ext kO2 hEm) hW234 hoff; have ha3 : Keep (Ext a0 w234) := Ext.wr' (Ext.trans ha2 hEm) hW234 hp; have hs3 : Keep (w.heap.size ≤ w234.heap.size) := Nat.le_trans (Nat.le_trans hs2 (Below.size hEm)) hW234.size; have hWo := Ext.wr (Ext.refl w234) p; clear hBo hEm hW234 kO2 ha2 hs2)
            first | (refine Seg.step rfl rfl (Yd.shl (by decide) rfl rfl rfl hw) ?_) | (refine Seg.step rfl rfl (Yd.addI rfl rfl hbd2) ?_) | (refine Seg.step rfl rfl (Yd.subI rfl rfl hbd3) ?_; rw [htv])
            first | (refine Seg.step rfl rfl (Yd.shl (by decide) rfl rfl rfl hw) ?_) | (refine Seg.step rfl rfl (Yd.addI rfl rfl hbd2) ?_) | (refine Seg.step rfl rfl (Yd.subI rfl rfl hbd3) ?_; rw [htv])
            refine Seg.step rfl rfl (Yd.assign rfl) (Seg.nil (At.then_ (Cd.seq (Cd.seq (Cd.region (Seg.step rfl rfl (Yd.move rfl) (Seg.step rfl rfl (Yd.move rfl) ?_)))))))
            refine Seg.step rfl rfl (Yd.geq rfl rfl) (Seg.nil (At.then_ ?_))
            refine Cd.condk rfl (fun h248 => ?_) (fun h248 => ?_)
            · exfalso; omega
            · refine Cd.skip (At.then_ (Cd.seq (Cd.seq (Cd.region (Seg.step rfl rfl (Yd.move rfl) (Seg.step rfl rfl (Yd.lss rfl rfl) (Seg.nil ?_)))))))
              refine At.then_ (Cd.condF rfl (Cd.skip (At.then_ (Cd.seq (Cd.region (Seg.step rfl rfl (Yd.move rfl) (Seg.step rfl rfl (Yd.assign rfl) ?_)))))))
              refine Seg.nil (At.then_ (Cd.region (Seg.step rfl rfl (Yd.move rfl) (Seg.step rfl rfl (Yd.move rfl) (Seg.step rfl rfl (Yd.nilCheckP rfl) (Seg.step rfl rfl (Yd.fieldAddr rfl rfl) ?_))))))
              refine Seg.store1 rfl rfl rfl rfl rfl hB234 (by first | omega | (simp; done) | exact Nat.le_of_ble_eq_true rfl) (fun w273 hW273 hB273 => ?_)
              clear hB234
              replace hWo := Wr.trans hWo hW273
              refine Seg.nil (At.blk (At.blk ?_))
              exact At.round (⟨f, to, to, _, acc, rest, b', v⟩ : NmRd) (.cons rfl (.cons rfl (.cons rfl (.nil _)))) ⟨⟨hr, hac, .inr rfl⟩, by assumption, ⟨own_wr kO3 hWo hoff, hoff⟩, Ext.wr' ha3 hWo hp, Nat.le_trans hs3 hWo.size⟩ (Nat.lt_succ_self f)
end Go.Proofs.YtahpiaaffeiadaaGreat
