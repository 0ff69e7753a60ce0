/- Records' data written: rdata.Put. -/
import Derived.Test.YtahpiaaffeiadaaGreatZpu
namespace Go.Proofs.YtahpiaaffeiadaaGreat
open Go Go.RowKit
theorem ok_t {r : Rec} (hk : kdN r.ty r.cl = 5 ∨ kdN r.ty r.cl = 12) (h : RecOk r) : chkN r.tg = 0 := by
  obtain ⟨_, _, _, _, hd⟩ := h
  cases hd with
  | a f h => rcases h with h | h <;> omega
  | t _ _ h => exact h
  | s h => omega
  | o h => omega
  | r h => omega
theorem ok_s {r : Rec} (hk : kdN r.ty r.cl = 33) (h : RecOk r) : chkN r.tg = 0 ∧ in16 r.pri ∧ in16 r.wt ∧ in16 r.pt := by
  obtain ⟨_, _, _, _, hd⟩ := h
  cases hd with
  | a f h => rcases h with h | h <;> omega
  | t h => rcases h with h | h <;> omega
  | s _ _ h _ h2 =>
    simp only [List.mem_cons, List.not_mem_nil, or_false, forall_eq_or_imp, forall_eq] at h2
    exact ⟨h, h2⟩
  | o h => omega
  | r h => omega
def ipB (r : Rec) (k : Nat) : List UInt8 := ([r.i0, r.i1, r.i2, r.i3, r.i4, r.i5, r.i6, r.i7, r.i8, r.i9, r.i10, r.i11, r.i12, r.i13, r.i14, r.i15].take k).map fun i => UInt8.ofNat i.toNat
theorem ipB_len (r : Rec) (k : Nat) (h : k ≤ 16) : (ipB r k).length = k := by
  unfold ipB
  rw [List.length_map, List.length_take]
  show min k 16 = k
  omega
theorem u8_back {i : Int} (h : W8 i) : ((UInt8.ofNat i.toNat).toNat : Int) = i := by
  have h2 : 0 ≤ i ∧ i ≤ 255 := by simpa [W8, Lit.wf, IntKind.min, IntKind.max, IntKind.signed, IntKind.bits] using h
  rw [u8_of]
  omega
theorem ip_cells {r : Rec} (h : WfR r) (k : Nat) : bytesV (ipB r k) = [.int .u8 r.i0, .int .u8 r.i1, .int .u8 r.i2, .int .u8 r.i3, .int .u8 r.i4, .int .u8 r.i5, .int .u8 r.i6, .int .u8 r.i7, .int .u8 r.i8, .int .u8 r.i9, .int .u8 r.i10, .int .u8 r.i11, .int .u8 r.i12, .int .u8 r.i13, .int .u8 r.i14, .int .u8 r.i15].take k := by
  have e : [Value.int .u8 r.i0, .int .u8 r.i1, .int .u8 r.i2, .int .u8 r.i3, .int .u8 r.i4, .int .u8 r.i5, .int .u8 r.i6, .int .u8 r.i7, .int .u8 r.i8, .int .u8 r.i9, .int .u8 r.i10, .int .u8 r.i11, .int .u8 r.i12, .int .u8 r.i13, .int .u8 r.i14, .int .u8 r.i15] = [r.i0, r.i1, r.i2, r.i3, r.i4, r.i5, r.i6, r.i7, r.i8, r.i9, r.i10, r.i11, r.i12, r.i13, r.i14, r.i15].map fun i => Value.int .u8 i := rfl
  rw [e, ← List.map_take]
  unfold ipB bytesV
  rw [List.map_map]
  refine List.map_congr_left fun i hi => ?_
  show Value.int .u8 ((UInt8.ofNat i.toNat).toNat : Int) = .int .u8 i
  rw [u8_back (h.2.2.1 i (List.mem_of_mem_take hi))]
theorem ip_sl4 {r : Rec} {w : World} {b : Nat} (h : WfR r) (hB : Row w ⟨b, 0, none⟩ (Value.agg r.cells.toArray).cells.toList) : Sl w 1 (.slice (some ((Addr.add ⟨b, 0, none⟩ 4).add 1)) 4 16) (ipB r 4).length (bytesV (ipB r 4)) := by
  rw [ip_cells h 4, ipB_len r 4 (by decide)]
  exact ⟨_, _, rfl, rfl, (fun a ha => by cases ha; rw [Deep.add_add]; exact hB.part 5 4), fun h => by cases h⟩
theorem ip_sl16 {r : Rec} {w : World} {b : Nat} (h : WfR r) (hB : Row w ⟨b, 0, none⟩ (Value.agg r.cells.toArray).cells.toList) : Sl w 1 (.slice (some ((Addr.add ⟨b, 0, none⟩ 4).add 1)) 16 16) (ipB r 16).length (bytesV (ipB r 16)) := by
  rw [ip_cells h 16, ipB_len r 16 (by decide)]
  exact ⟨_, _, rfl, rfl, (fun a ha => by cases ha; rw [Deep.add_add]; exact hB.part 5 16), fun h => by cases h⟩
theorem a_rd {r : Rec} {at' : Nat} {F : List UInt8 → Option Nat} (k : Nat) (hk : kdN r.ty r.cl = 1 ∧ k = 4 ∨ kdN r.ty r.cl = 28 ∧ k = 16) (hw : WfR r) : PutD r at' F (ipB r k) F where
  rd := fun X hX hT => by
    have h16 : k ≤ 16 := by omega
    refine ⟨.a k hk (by rw [List.length_append, ipB_len r k h16, hX]) ?_, hT.more _⟩
    rw [← hX, List.drop_left]
    exact ip_cells hw k
theorem t_rd {r : Rec} {at' : Nat} {F F' : List UInt8 → Option Nat} {out : List UInt8} (hk : kdN r.ty r.cl = 5 ∨ kdN r.ty r.cl = 12) (h : PutOk r.tg at' F out F') : PutD r at' F out F' where
  rd := fun X hX hT => by
    obtain ⟨⟨f, h1⟩, h2⟩ := h.rd X hX hT
    refine ⟨.t (f := f) hk ?_, h2⟩
    rw [List.length_append, hX]
    exact h1
theorem s_rd {r : Rec} {at' : Nat} {F : List UInt8 → Option Nat} (hk : kdN r.ty r.cl = 33) (hF : okF F) (hc : chkN r.tg = 0) (h1 : in16 r.pri) (h2 : in16 r.wt) (h3 : in16 r.pt) : PutD r at' F (beB 2 r.pri.toNat ++ beB 2 r.wt.toNat ++ beB 2 r.pt.toNat ++ (octN r.tg ++ [0])) F where
  rd := fun X hX hT => by
    obtain ⟨⟨f, g1⟩, _⟩ := (putok_nil (at' + 6) hF hc).rd (X ++ beB 2 r.pri.toNat ++ beB 2 r.wt.toNat ++ beB 2 r.pt.toNat) (by simp only [List.length_append, beB_len, hX]) (((hT.more _).more _).more _)
    have e : X ++ (beB 2 r.pri.toNat ++ beB 2 r.wt.toNat ++ beB 2 r.pt.toNat ++ (octN r.tg ++ [0])) = X ++ beB 2 r.pri.toNat ++ beB 2 r.wt.toNat ++ beB 2 r.pt.toNat ++ (octN r.tg ++ [0]) := by simp
    have q0 := de_mid X (beB 2 r.wt.toNat ++ (beB 2 r.pt.toNat ++ (octN r.tg ++ [0]))) 2 r.pri.toNat (u16_lt h1)
    have q1 := de_mid (X ++ beB 2 r.pri.toNat) (beB 2 r.pt.toNat ++ (octN r.tg ++ [0])) 2 r.wt.toNat (u16_lt h2)
    have q2 := de_mid (X ++ beB 2 r.pri.toNat ++ beB 2 r.wt.toNat) (octN r.tg ++ [0]) 2 r.pt.toNat (u16_lt h3)
    have z : ∀ {i : Int}, in16 i → ((i.toNat : Nat) : Int) = i := fun h => Int.toNat_of_nonneg h.1
    have hlen : (X ++ (beB 2 r.pri.toNat ++ beB 2 r.wt.toNat ++ beB 2 r.pt.toNat ++ (octN r.tg ++ [0]))).length = at' + 6 + (octN r.tg ++ [0]).length := by simp only [List.length_append, beB_len, hX]; omega
    refine ⟨.s (f := f) hk (by rw [hlen]; omega) ?_ ?_ ?_ (by rw [hlen, e]; exact g1), hT.more _⟩
    · rw [← hX]
      simp only [List.length_append, beB_len, List.append_assoc, Nat.add_assoc, Nat.reduceAdd] at q0 ⊢
      rw [q0, z h1]
    · rw [← hX]
      simp only [List.length_append, beB_len, List.append_assoc, Nat.add_assoc, Nat.reduceAdd] at q1 ⊢
      rw [q1, z h2]
    · rw [← hX]
      simp only [List.length_append, beB_len, List.append_assoc, Nat.add_assoc, Nat.reduceAdd] at q2 ⊢
      rw [q2, z h3]
theorem r_rd {r : Rec} {at' : Nat} {F : List UInt8 → Option Nat} (hk : kdN r.ty r.cl = 0) : PutD r at' F r.raw F where
  rd := fun X hX hT => ⟨.r hk (by rw [List.length_append, hX]) (by rw [← hX, List.drop_left]), hT.more _⟩
set_option maxHeartbeats 400000 in
theorem rput1 (a0 : World) (r : Rec) (w : World) (po : Option Addr) (bm m at' : Nat) (F : List UInt8 → Option Nat) (ha : Ext a0 w) (hbm : a0.heap.size ≤ bm) (hr : RecAt a0 r) (hw : WfR r) (hf : FitR r) (hk : kdN r.ty r.cl = 1) (hT : TabV w po bm m F) (hF : okF F) (hm : m ≤ 900000) (hat : at' ≤ 900000) :
    Ret Tryz.prog 49 #[.agg r.cells.toArray, .int .i64 (at' : Nat), .pointer po] w fun v w' => ∃ out e F' m', v = .tuple #[.string ⟨out.toArray⟩, .int .i64 e] ∧ (e = 0 → RecOk r ∧ PutD r at' F out F') ∧ okF F' ∧ out.length ≤ 70000 ∧ TabV w' po bm m' F' ∧ m' ≤ m + 512 ∧ Chg po bm w w' := by
  have hE0 := Ext.refl w
  have kr : Keep (RecAt a0 r) := hr
  clear hr
  refine Ret.body Tryz.func49 rfl Tryz.ntmps49 rfl (Cd.seq (Cd.region (Seg.box rfl rfl rfl (fun w3 b3 hE3 hB3 hb3 => ?_))))
  have hlt3_0 := Nat.le_trans ha.size hb3
  have hlt3_1 := Nat.le_trans hE0.size hb3
  replace ha := Ext.trans ha hE3
  replace hT := hT.ext hE3
  replace hE0 := Ext.trans hE0 hE3
  refine Seg.step rfl rfl (Yd.assign rfl) (Seg.step rfl rfl (Yd.assign rfl) (Seg.nil (At.then_ (Cd.seq (Cd.seq (Cd.region (Seg.step rfl rfl (Yd.loadN rfl rfl rfl hB3.row) ?_)))))))
  (refine Seg.call rfl rfl (own_of rfl) rfl (rcheck_any r _ (RecAt.ext kr ha) hw hf) ?_; rintro _ w12 ⟨⟨e0, rfl, hok⟩, hE12⟩)
  replace hE3 := Ext.trans hE3 hE12
  replace hB3 := hB3.ext hE12
  replace ha := Ext.trans ha hE12
  replace hT := hT.ext hE12
  replace hE0 := Ext.trans hE0 hE12
  refine Seg.step rfl rfl (Yd.assign rfl) (Seg.nil (At.then_ (Cd.seq (Cd.region (Seg.step rfl rfl (Yd.move rfl) (Seg.step rfl rfl (Yd.neq rfl rfl) (Seg.nil ?_)))))))
  refine At.then_ ?_
  refine Cd.condk rfl (fun h22 => ?_) (fun h22 => ?_)
  · refine Cd.seq (Cd.region (Seg.step rfl rfl (Yd.move rfl) (Seg.step rfl rfl (Yd.assign rfl) (Seg.step rfl rfl (Yd.assign rfl) (Seg.nil (At.then_ (Cd.ret ?_)))))))
    refine At.then_ret ?_
    exact At.ret Tryz.results49 (.tmp rfl (.tmp rfl .nil)) ⟨[], _, F, m, rfl, fun h => absurd h (by assumption), hF, Nat.zero_le _, hT, Nat.le_add_right _ _, Chg.of hE0⟩
  · refine Cd.skip (At.then_ (Cd.seq (Cd.seq (Cd.region (Seg.step rfl rfl (Yd.fieldAddr rfl rfl) (Seg.step rfl rfl (Yd.load1 rfl rfl (hB3.row _ _ rfl)) (Seg.step rfl rfl (Yd.fieldAddr rfl rfl) ?_)))))))
    refine Seg.step rfl rfl (Yd.load1 rfl rfl (hB3.row _ _ rfl)) ?_
    (refine Seg.call rfl rfl (own_of rfl) rfl (rkind_any r.ty r.cl _) ?_; rw [hk]; rintro _ w44 ⟨rfl, hE44⟩)
    replace hE12 := Ext.trans hE12 hE44
    replace hE3 := Ext.trans hE3 hE44
    replace hB3 := hB3.ext hE44
    replace ha := Ext.trans ha hE44
    replace hT := hT.ext hE44
    replace hE0 := Ext.trans hE0 hE44
    refine Seg.nil (At.then_ (Cd.block (Cd.seq (Cd.region (Seg.step rfl rfl (Yd.eql rfl rfl) (Seg.step rfl rfl (Yd.assign rfl) (Seg.nil ?_)))))))
    refine At.then_ (Cd.condT rfl (Cd.seq (Cd.region (Seg.step rfl rfl (Yd.fieldAddr rfl rfl) (Seg.step rfl rfl (Yd.fieldAddr' rfl rfl) (Seg.step rfl rfl ((Yd.slArH (hi := 4) rfl rfl rfl rfl (by decide))) (Seg.step rfl rfl ((Yd.bts (l := ipB r 4) rfl rfl rfl rfl (ip_sl4 hw (Bx.row (by assumption))))) ?_)))))))
    refine Seg.step rfl rfl (Yd.assign rfl) (Seg.step rfl rfl (Yd.assign rfl) (Seg.nil (At.then_ (Cd.ret (At.blk_ret (At.then_ret ?_))))))
    exact At.ret Tryz.results49 (.tmp rfl (.tmp rfl .nil)) ⟨ipB r 4, 0, F, m, rfl, fun _ => ⟨hok (Classical.not_not.1 (by assumption)), a_rd 4 (.inl ⟨hk, rfl⟩) hw⟩, hF, (by rw [ipB_len _ _ (by decide)]; decide), hT, Nat.le_add_right _ _, Chg.of hE0⟩
set_option maxHeartbeats 400000 in
theorem rput28 (a0 : World) (r : Rec) (w : World) (po : Option Addr) (bm m at' : Nat) (F : List UInt8 → Option Nat) (ha : Ext a0 w) (hbm : a0.heap.size ≤ bm) (hr : RecAt a0 r) (hw : WfR r) (hf : FitR r) (hk : kdN r.ty r.cl = 28) (hT : TabV w po bm m F) (hF : okF F) (hm : m ≤ 900000) (hat : at' ≤ 900000) :
    Ret Tryz.prog 49 #[.agg r.cells.toArray, .int .i64 (at' : Nat), .pointer po] w fun v w' => ∃ out e F' m', v = .tuple #[.string ⟨out.toArray⟩, .int .i64 e] ∧ (e = 0 → RecOk r ∧ PutD r at' F out F') ∧ okF F' ∧ out.length ≤ 70000 ∧ TabV w' po bm m' F' ∧ m' ≤ m + 512 ∧ Chg po bm w w' := by
  have hE0 := Ext.refl w
  have kr : Keep (RecAt a0 r) := hr
  clear hr
  refine Ret.body Tryz.func49 rfl Tryz.ntmps49 rfl (Cd.seq (Cd.region (Seg.box rfl rfl rfl (fun w3 b3 hE3 hB3 hb3 => ?_))))
  have hlt3_0 := Nat.le_trans ha.size hb3
  have hlt3_1 := Nat.le_trans hE0.size hb3
  replace ha := Ext.trans ha hE3
  replace hT := hT.ext hE3
  replace hE0 := Ext.trans hE0 hE3
  refine Seg.step rfl rfl (Yd.assign rfl) (Seg.step rfl rfl (Yd.assign rfl) (Seg.nil (At.then_ (Cd.seq (Cd.seq (Cd.region (Seg.step rfl rfl (Yd.loadN rfl rfl rfl hB3.row) ?_)))))))
  (refine Seg.call rfl rfl (own_of rfl) rfl (rcheck_any r _ (RecAt.ext kr ha) hw hf) ?_; rintro _ w12 ⟨⟨e0, rfl, hok⟩, hE12⟩)
  replace hE3 := Ext.trans hE3 hE12
  replace hB3 := hB3.ext hE12
  replace ha := Ext.trans ha hE12
  replace hT := hT.ext hE12
  replace hE0 := Ext.trans hE0 hE12
  refine Seg.step rfl rfl (Yd.assign rfl) (Seg.nil (At.then_ (Cd.seq (Cd.region (Seg.step rfl rfl (Yd.move rfl) (Seg.step rfl rfl (Yd.neq rfl rfl) (Seg.nil ?_)))))))
  refine At.then_ ?_
  refine Cd.condk rfl (fun h22 => ?_) (fun h22 => ?_)
  · refine Cd.seq (Cd.region (Seg.step rfl rfl (Yd.move rfl) (Seg.step rfl rfl (Yd.assign rfl) (Seg.step rfl rfl (Yd.assign rfl) (Seg.nil (At.then_ (Cd.ret ?_)))))))
    refine At.then_ret ?_
    exact At.ret Tryz.results49 (.tmp rfl (.tmp rfl .nil)) ⟨[], _, F, m, rfl, fun h => absurd h (by assumption), hF, Nat.zero_le _, hT, Nat.le_add_right _ _, Chg.of hE0⟩
  · refine Cd.skip (At.then_ (Cd.seq (Cd.seq (Cd.region (Seg.step rfl rfl (Yd.fieldAddr rfl rfl) (Seg.step rfl rfl (Yd.load1 rfl rfl (hB3.row _ _ rfl)) (Seg.step rfl rfl (Yd.fieldAddr rfl rfl) ?_)))))))
    refine Seg.step rfl rfl (Yd.load1 rfl rfl (hB3.row _ _ rfl)) ?_
    (refine Seg.call rfl rfl (own_of rfl) rfl (rkind_any r.ty r.cl _) ?_; rw [hk]; rintro _ w44 ⟨rfl, hE44⟩)
    replace hE12 := Ext.trans hE12 hE44
    replace hE3 := Ext.trans hE3 hE44
    replace hB3 := hB3.ext hE44
    replace ha := Ext.trans ha hE44
    replace hT := hT.ext hE44
    replace hE0 := Ext.trans hE0 hE44
    refine Seg.nil (At.then_ (Cd.block (Cd.seq (Cd.region (Seg.step rfl rfl (Yd.eql rfl rfl) (Seg.step rfl rfl (Yd.assign rfl) (Seg.nil ?_)))))))
    refine At.then_ (Cd.condF rfl (Cd.seq (Cd.region (Seg.step rfl rfl (Yd.eql rfl rfl) (Seg.step rfl rfl (Yd.assign rfl) (Seg.nil (At.then_ ?_)))))))
    refine Cd.condT rfl (Cd.seq (Cd.region (Seg.step rfl rfl (Yd.fieldAddr rfl rfl) (Seg.step rfl rfl (Yd.fieldAddr' rfl rfl) (Seg.step rfl rfl ((Yd.slAr (m := 15) rfl rfl)) (Seg.step rfl rfl ((Yd.bts (l := ipB r 16) rfl rfl rfl rfl (ip_sl16 hw (Bx.row (by assumption))))) (Seg.step rfl rfl (Yd.assign rfl) ?_)))))))
    refine Seg.step rfl rfl (Yd.assign rfl) (Seg.nil (At.then_ (Cd.ret (At.blk_ret (At.then_ret ?_)))))
    exact At.ret Tryz.results49 (.tmp rfl (.tmp rfl .nil)) ⟨ipB r 16, 0, F, m, rfl, fun _ => ⟨hok (Classical.not_not.1 (by assumption)), a_rd 16 (.inr ⟨hk, rfl⟩) hw⟩, hF, (by rw [ipB_len _ _ (by decide)]; decide), hT, Nat.le_add_right _ _, Chg.of hE0⟩
set_option maxHeartbeats 400000 in
theorem rput5 (a0 : World) (r : Rec) (w : World) (po : Option Addr) (bm m at' : Nat) (F : List UInt8 → Option Nat) (ha : Ext a0 w) (hbm : a0.heap.size ≤ bm) (hr : RecAt a0 r) (hw : WfR r) (hf : FitR r) (hk : kdN r.ty r.cl = 5) (hT : TabV w po bm m F) (hF : okF F) (hm : m ≤ 900000) (hat : at' ≤ 900000) :
    Ret Tryz.prog 49 #[.agg r.cells.toArray, .int .i64 (at' : Nat), .pointer po] w fun v w' => ∃ out e F' m', v = .tuple #[.string ⟨out.toArray⟩, .int .i64 e] ∧ (e = 0 → RecOk r ∧ PutD r at' F out F') ∧ okF F' ∧ out.length ≤ 70000 ∧ TabV w' po bm m' F' ∧ m' ≤ m + 512 ∧ Chg po bm w w' := by
  have hE0 := Ext.refl w
  have kr : Keep (RecAt a0 r) := hr
  clear hr
  refine Ret.body Tryz.func49 rfl Tryz.ntmps49 rfl (Cd.seq (Cd.region (Seg.box rfl rfl rfl (fun w3 b3 hE3 hB3 hb3 => ?_))))
  have hlt3_0 := Nat.le_trans ha.size hb3
  have hlt3_1 := Nat.le_trans hE0.size hb3
  replace ha := Ext.trans ha hE3
  replace hT := hT.ext hE3
  replace hE0 := Ext.trans hE0 hE3
  refine Seg.step rfl rfl (Yd.assign rfl) (Seg.step rfl rfl (Yd.assign rfl) (Seg.nil (At.then_ (Cd.seq (Cd.seq (Cd.region (Seg.step rfl rfl (Yd.loadN rfl rfl rfl hB3.row) ?_)))))))
  (refine Seg.call rfl rfl (own_of rfl) rfl (rcheck_any r _ (RecAt.ext kr ha) hw hf) ?_; rintro _ w12 ⟨⟨e0, rfl, hok⟩, hE12⟩)
  replace hE3 := Ext.trans hE3 hE12
  replace hB3 := hB3.ext hE12
  replace ha := Ext.trans ha hE12
  replace hT := hT.ext hE12
  replace hE0 := Ext.trans hE0 hE12
  refine Seg.step rfl rfl (Yd.assign rfl) (Seg.nil (At.then_ (Cd.seq (Cd.region (Seg.step rfl rfl (Yd.move rfl) (Seg.step rfl rfl (Yd.neq rfl rfl) (Seg.nil ?_)))))))
  refine At.then_ ?_
  refine Cd.condk rfl (fun h22 => ?_) (fun h22 => ?_)
  · refine Cd.seq (Cd.region (Seg.step rfl rfl (Yd.move rfl) (Seg.step rfl rfl (Yd.assign rfl) (Seg.step rfl rfl (Yd.assign rfl) (Seg.nil (At.then_ (Cd.ret ?_)))))))
    refine At.then_ret ?_
    exact At.ret Tryz.results49 (.tmp rfl (.tmp rfl .nil)) ⟨[], _, F, m, rfl, fun h => absurd h (by assumption), hF, Nat.zero_le _, hT, Nat.le_add_right _ _, Chg.of hE0⟩
  · refine Cd.skip (At.then_ (Cd.seq (Cd.seq (Cd.region (Seg.step rfl rfl (Yd.fieldAddr rfl rfl) (Seg.step rfl rfl (Yd.load1 rfl rfl (hB3.row _ _ rfl)) (Seg.step rfl rfl (Yd.fieldAddr rfl rfl) ?_)))))))
    refine Seg.step rfl rfl (Yd.load1 rfl rfl (hB3.row _ _ rfl)) ?_
    (refine Seg.call rfl rfl (own_of rfl) rfl (rkind_any r.ty r.cl _) ?_; rw [hk]; rintro _ w44 ⟨rfl, hE44⟩)
    replace hE12 := Ext.trans hE12 hE44
    replace hE3 := Ext.trans hE3 hE44
    replace hB3 := hB3.ext hE44
    replace ha := Ext.trans ha hE44
    replace hT := hT.ext hE44
    replace hE0 := Ext.trans hE0 hE44
    refine Seg.nil (At.then_ (Cd.block (Cd.seq (Cd.region (Seg.step rfl rfl (Yd.eql rfl rfl) (Seg.step rfl rfl (Yd.assign rfl) (Seg.nil ?_)))))))
    refine At.then_ (Cd.condF rfl (Cd.seq (Cd.region (Seg.step rfl rfl (Yd.eql rfl rfl) (Seg.step rfl rfl (Yd.assign rfl) (Seg.nil (At.then_ ?_)))))))
    refine Cd.condF rfl (Cd.seq (Cd.seq (Cd.region (Seg.step rfl rfl (Yd.eql rfl rfl) (Seg.step rfl rfl (Yd.assign rfl) (Seg.nil (At.then_ ?_)))))))
    refine Cd.condT rfl (Cd.skip (At.then_ (Cd.condT rfl (Cd.seq (Cd.region (Seg.step rfl rfl (Yd.move rfl) (Seg.step rfl rfl (Yd.fieldAddr rfl rfl) ?_)))))))
    refine Seg.step rfl rfl (Yd.load1 rfl rfl (hB3.row _ _ rfl)) (Seg.step rfl rfl (Yd.move rfl) ?_)
    (refine Seg.call rfl rfl (own_of rfl) rfl (tput_any r.tg r.vt _ po bm m at' F (Sl.ext (show NameAt a0 r.vt r.tg from kr.2.1) ha) (ok_t (.inl hk) (hok (Classical.not_not.1 (by assumption)))) hT hF (by omega) (by omega)) ?_; rintro _ w79 ⟨o1, F1, m1, rfl, hP1, hT1, hm1, hC1⟩; have hl1 := hP1.len; have kC : Keep (Chg po bm w w79) := (Chg.of hE0).trans hC1; clear hT ha hE0 hC1; have hEn := Ext.refl w79)
    refine Seg.step rfl rfl (Yd.extract rfl rfl) (Seg.step rfl rfl (Yd.extract rfl rfl) (Seg.step rfl rfl (Yd.assign rfl) (Seg.step rfl rfl (Yd.assign rfl) (Seg.nil (At.then_ (Cd.ret (At.blk_ret ?_)))))))
    refine At.then_ret ?_
    exact At.ret Tryz.results49 (.tmp rfl (.tmp rfl .nil)) ⟨o1, 0, F1, m1, rfl, fun _ => ⟨hok (Classical.not_not.1 (by assumption)), t_rd (.inl hk) hP1⟩, hP1.ok, by omega, hT1, by omega, kC.trans (Chg.of hEn)⟩
set_option maxHeartbeats 400000 in
theorem rput12 (a0 : World) (r : Rec) (w : World) (po : Option Addr) (bm m at' : Nat) (F : List UInt8 → Option Nat) (ha : Ext a0 w) (hbm : a0.heap.size ≤ bm) (hr : RecAt a0 r) (hw : WfR r) (hf : FitR r) (hk : kdN r.ty r.cl = 12) (hT : TabV w po bm m F) (hF : okF F) (hm : m ≤ 900000) (hat : at' ≤ 900000) :
    Ret Tryz.prog 49 #[.agg r.cells.toArray, .int .i64 (at' : Nat), .pointer po] w fun v w' => ∃ out e F' m', v = .tuple #[.string ⟨out.toArray⟩, .int .i64 e] ∧ (e = 0 → RecOk r ∧ PutD r at' F out F') ∧ okF F' ∧ out.length ≤ 70000 ∧ TabV w' po bm m' F' ∧ m' ≤ m + 512 ∧ Chg po bm w w' := by
  have hE0 := Ext.refl w
  have kr : Keep (RecAt a0 r) := hr
  clear hr
  refine Ret.body Tryz.func49 rfl Tryz.ntmps49 rfl (Cd.seq (Cd.region (Seg.box rfl rfl rfl (fun w3 b3 hE3 hB3 hb3 => ?_))))
  have hlt3_0 := Nat.le_trans ha.size hb3
  have hlt3_1 := Nat.le_trans hE0.size hb3
  replace ha := Ext.trans ha hE3
  replace hT := hT.ext hE3
  replace hE0 := Ext.trans hE0 hE3
  refine Seg.step rfl rfl (Yd.assign rfl) (Seg.step rfl rfl (Yd.assign rfl) (Seg.nil (At.then_ (Cd.seq (Cd.seq (Cd.region (Seg.step rfl rfl (Yd.loadN rfl rfl rfl hB3.row) ?_)))))))
  (refine Seg.call rfl rfl (own_of rfl) rfl (rcheck_any r _ (RecAt.ext kr ha) hw hf) ?_; rintro _ w12 ⟨⟨e0, rfl, hok⟩, hE12⟩)
  replace hE3 := Ext.trans hE3 hE12
  replace hB3 := hB3.ext hE12
  replace ha := Ext.trans ha hE12
  replace hT := hT.ext hE12
  replace hE0 := Ext.trans hE0 hE12
  refine Seg.step rfl rfl (Yd.assign rfl) (Seg.nil (At.then_ (Cd.seq (Cd.region (Seg.step rfl rfl (Yd.move rfl) (Seg.step rfl rfl (Yd.neq rfl rfl) (Seg.nil ?_)))))))
  refine At.then_ ?_
  refine Cd.condk rfl (fun h22 => ?_) (fun h22 => ?_)
  · refine Cd.seq (Cd.region (Seg.step rfl rfl (Yd.move rfl) (Seg.step rfl rfl (Yd.assign rfl) (Seg.step rfl rfl (Yd.assign rfl) (Seg.nil (At.then_ (Cd.ret ?_)))))))
    refine At.then_ret ?_
    exact At.ret Tryz.results49 (.tmp rfl (.tmp rfl .nil)) ⟨[], _, F, m, rfl, fun h => absurd h (by assumption), hF, Nat.zero_le _, hT, Nat.le_add_right _ _, Chg.of hE0⟩
  · refine Cd.skip (At.then_ (Cd.seq (Cd.seq (Cd.region (Seg.step rfl rfl (Yd.fieldAddr rfl rfl) (Seg.step rfl rfl (Yd.load1 rfl rfl (hB3.row _ _ rfl)) (Seg.step rfl rfl (Yd.fieldAddr rfl rfl) ?_)))))))
    refine Seg.step rfl rfl (Yd.load1 rfl rfl (hB3.row _ _ rfl)) ?_
    (refine Seg.call rfl rfl (own_of rfl) rfl (rkind_any r.ty r.cl _) ?_; rw [hk]; rintro _ w44 ⟨rfl, hE44⟩)
    replace hE12 := Ext.trans hE12 hE44
    replace hE3 := Ext.trans hE3 hE44
    replace hB3 := hB3.ext hE44
    replace ha := Ext.trans ha hE44
    replace hT := hT.ext hE44
    replace hE0 := Ext.trans hE0 hE44
    refine Seg.nil (At.then_ (Cd.block (Cd.seq (Cd.region (Seg.step rfl rfl (Yd.eql rfl rfl) (Seg.step rfl rfl (Yd.assign rfl) (Seg.nil ?_)))))))
    refine At.then_ (Cd.condF rfl (Cd.seq (Cd.region (Seg.step rfl rfl (Yd.eql rfl rfl) (Seg.step rfl rfl (Yd.assign rfl) (Seg.nil (At.then_ ?_)))))))
    refine Cd.condF rfl (Cd.seq (Cd.seq (Cd.region (Seg.step rfl rfl (Yd.eql rfl rfl) (Seg.step rfl rfl (Yd.assign rfl) (Seg.nil (At.then_ ?_)))))))
    refine Cd.condF rfl (Cd.region (Seg.step rfl rfl (Yd.eql rfl rfl) (Seg.step rfl rfl (Yd.assign rfl) (Seg.nil (At.then_ (Cd.condT rfl (Cd.seq ?_)))))))
    refine Cd.region (Seg.step rfl rfl (Yd.move rfl) (Seg.step rfl rfl (Yd.fieldAddr rfl rfl) (Seg.step rfl rfl (Yd.load1 rfl rfl (hB3.row _ _ rfl)) (Seg.step rfl rfl (Yd.move rfl) ?_))))
    (refine Seg.call rfl rfl (own_of rfl) rfl (tput_any r.tg r.vt _ po bm m at' F (Sl.ext (show NameAt a0 r.vt r.tg from kr.2.1) ha) (ok_t (.inr hk) (hok (Classical.not_not.1 (by assumption)))) hT hF (by omega) (by omega)) ?_; rintro _ w82 ⟨o1, F1, m1, rfl, hP1, hT1, hm1, hC1⟩; have hl1 := hP1.len; have kC : Keep (Chg po bm w w82) := (Chg.of hE0).trans hC1; clear hT ha hE0 hC1; have hEn := Ext.refl w82)
    refine Seg.step rfl rfl (Yd.extract rfl rfl) (Seg.step rfl rfl (Yd.extract rfl rfl) (Seg.step rfl rfl (Yd.assign rfl) (Seg.step rfl rfl (Yd.assign rfl) (Seg.nil (At.then_ (Cd.ret (At.blk_ret ?_)))))))
    refine At.then_ret ?_
    exact At.ret Tryz.results49 (.tmp rfl (.tmp rfl .nil)) ⟨o1, 0, F1, m1, rfl, fun _ => ⟨hok (Classical.not_not.1 (by assumption)), t_rd (.inr hk) hP1⟩, hP1.ok, by omega, hT1, by omega, kC.trans (Chg.of hEn)⟩
set_option maxHeartbeats 400000 in
theorem rput33 (a0 : World) (r : Rec) (w : World) (po : Option Addr) (bm m at' : Nat) (F : List UInt8 → Option Nat) (ha : Ext a0 w) (hbm : a0.heap.size ≤ bm) (hr : RecAt a0 r) (hw : WfR r) (hf : FitR r) (hk : kdN r.ty r.cl = 33) (hT : TabV w po bm m F) (hF : okF F) (hm : m ≤ 900000) (hat : at' ≤ 900000) :
    Ret Tryz.prog 49 #[.agg r.cells.toArray, .int .i64 (at' : Nat), .pointer po] w fun v w' => ∃ out e F' m', v = .tuple #[.string ⟨out.toArray⟩, .int .i64 e] ∧ (e = 0 → RecOk r ∧ PutD r at' F out F') ∧ okF F' ∧ out.length ≤ 70000 ∧ TabV w' po bm m' F' ∧ m' ≤ m + 512 ∧ Chg po bm w w' := by
  have hE0 := Ext.refl w
  have kr : Keep (RecAt a0 r) := hr
  clear hr
  refine Ret.body Tryz.func49 rfl Tryz.ntmps49 rfl (Cd.seq (Cd.region (Seg.box rfl rfl rfl (fun w3 b3 hE3 hB3 hb3 => ?_))))
  have hlt3_0 := Nat.le_trans ha.size hb3
  have hlt3_1 := Nat.le_trans hE0.size hb3
  replace ha := Ext.trans ha hE3
  replace hT := hT.ext hE3
  replace hE0 := Ext.trans hE0 hE3
  refine Seg.step rfl rfl (Yd.assign rfl) (Seg.step rfl rfl (Yd.assign rfl) (Seg.nil (At.then_ (Cd.seq (Cd.seq (Cd.region (Seg.step rfl rfl (Yd.loadN rfl rfl rfl hB3.row) ?_)))))))
  (refine Seg.call rfl rfl (own_of rfl) rfl (rcheck_any r _ (RecAt.ext kr ha) hw hf) ?_; rintro _ w12 ⟨⟨e0, rfl, hok⟩, hE12⟩)
  replace hE3 := Ext.trans hE3 hE12
  replace hB3 := hB3.ext hE12
  replace ha := Ext.trans ha hE12
  replace hT := hT.ext hE12
  replace hE0 := Ext.trans hE0 hE12
  refine Seg.step rfl rfl (Yd.assign rfl) (Seg.nil (At.then_ (Cd.seq (Cd.region (Seg.step rfl rfl (Yd.move rfl) (Seg.step rfl rfl (Yd.neq rfl rfl) (Seg.nil ?_)))))))
  refine At.then_ ?_
  refine Cd.condk rfl (fun h22 => ?_) (fun h22 => ?_)
  · refine Cd.seq (Cd.region (Seg.step rfl rfl (Yd.move rfl) (Seg.step rfl rfl (Yd.assign rfl) (Seg.step rfl rfl (Yd.assign rfl) (Seg.nil (At.then_ (Cd.ret ?_)))))))
    refine At.then_ret ?_
    exact At.ret Tryz.results49 (.tmp rfl (.tmp rfl .nil)) ⟨[], _, F, m, rfl, fun h => absurd h (by assumption), hF, Nat.zero_le _, hT, Nat.le_add_right _ _, Chg.of hE0⟩
  · refine Cd.skip (At.then_ (Cd.seq (Cd.seq (Cd.region (Seg.step rfl rfl (Yd.fieldAddr rfl rfl) (Seg.step rfl rfl (Yd.load1 rfl rfl (hB3.row _ _ rfl)) (Seg.step rfl rfl (Yd.fieldAddr rfl rfl) ?_)))))))
    refine Seg.step rfl rfl (Yd.load1 rfl rfl (hB3.row _ _ rfl)) ?_
    (refine Seg.call rfl rfl (own_of rfl) rfl (rkind_any r.ty r.cl _) ?_; rw [hk]; rintro _ w44 ⟨rfl, hE44⟩)
    replace hE12 := Ext.trans hE12 hE44
    replace hE3 := Ext.trans hE3 hE44
    replace hB3 := hB3.ext hE44
    replace ha := Ext.trans ha hE44
    replace hT := hT.ext hE44
    replace hE0 := Ext.trans hE0 hE44
    refine Seg.nil (At.then_ (Cd.block (Cd.seq (Cd.region (Seg.step rfl rfl (Yd.eql rfl rfl) (Seg.step rfl rfl (Yd.assign rfl) (Seg.nil ?_)))))))
    refine At.then_ (Cd.condF rfl (Cd.seq (Cd.region (Seg.step rfl rfl (Yd.eql rfl rfl) (Seg.step rfl rfl (Yd.assign rfl) (Seg.nil (At.then_ ?_)))))))
    refine Cd.condF rfl (Cd.seq (Cd.seq (Cd.region (Seg.step rfl rfl (Yd.eql rfl rfl) (Seg.step rfl rfl (Yd.assign rfl) (Seg.nil (At.then_ ?_)))))))
    refine Cd.condF rfl (Cd.region (Seg.step rfl rfl (Yd.eql rfl rfl) (Seg.step rfl rfl (Yd.assign rfl) (Seg.nil (At.then_ (Cd.condF rfl (Cd.seq ?_)))))))
    refine Cd.region (Seg.step rfl rfl (Yd.eql rfl rfl) (Seg.step rfl rfl (Yd.assign rfl) (Seg.nil (At.then_ (Cd.condT rfl (Cd.seq (Cd.region ?_)))))))
    refine Seg.step rfl rfl (Yd.assign rfl) (Seg.nil (At.then_ (Cd.seq (Cd.region (Seg.step rfl rfl (Yd.move rfl) (Seg.step rfl rfl (Yd.fieldAddr rfl rfl) (Seg.step rfl rfl (Yd.load1 rfl rfl (hB3.row _ _ rfl)) ?_)))))))
    refine Seg.step rfl rfl (Yd.move rfl) ?_
    (refine Seg.call rfl rfl (own_of rfl) rfl (pputnil_any r.tg r.vt _ at' (Sl.ext (show NameAt a0 r.vt r.tg from kr.2.1) ha) (ok_s hk (hok (Classical.not_not.1 (by assumption)))).1) ?_; rintro _ w94 ⟨rfl, hE94⟩; obtain ⟨hc, g1, g2, g3⟩ := ok_s hk (hok (Classical.not_not.1 (by assumption))); have hol := octN_len r.tg; have hz5 := (chk_ok hc).2)
    replace hE44 := Ext.trans hE44 hE94
    replace hE12 := Ext.trans hE12 hE94
    replace hE3 := Ext.trans hE3 hE94
    replace hB3 := hB3.ext hE94
    replace ha := Ext.trans ha hE94
    replace hT := hT.ext hE94
    replace hE0 := Ext.trans hE0 hE94
    refine Seg.step rfl rfl (Yd.move rfl) (Seg.step rfl rfl (Yd.extract rfl rfl) (Seg.step rfl rfl (Yd.extract rfl rfl) (Seg.step rfl rfl (Yd.assign rfl) (Seg.step rfl rfl (Yd.assign rfl) (Seg.nil (At.then_ (Cd.seq ?_)))))))
    refine Cd.quiet (by kernel_rfl) (by kernel_rfl) (SegQ.step rfl rfl (fun w' hw' => Yd.fieldAddr rfl rfl) (SegQ.step rfl rfl (fun w' hw' => Yd.load1 rfl rfl ((hB3.ext hw').row _ _ rfl)) ?_))
    refine SegQ.call rfl rfl (own_of rfl) rfl (fun w' hw' => (oputI 2 r.pri w' (by decide) g1.1 (by have := g1.2; omega)).mono fun v w2 ⟨hv, h2⟩ => ⟨hv, hw'.trans h2⟩) ?_
    refine SegQ.step rfl rfl (fun w' hw' => Yd.fieldAddr rfl rfl) (SegQ.step rfl rfl (fun w' hw' => Yd.load1 rfl rfl ((hB3.ext hw').row _ _ rfl)) ?_)
    refine SegQ.call rfl rfl (own_of rfl) rfl (fun w' hw' => (oputI 2 r.wt w' (by decide) g2.1 (by have := g2.2; omega)).mono fun v w2 ⟨hv, h2⟩ => ⟨hv, hw'.trans h2⟩) ?_
    refine SegQ.step rfl rfl (fun w' hw' => (Yd.addS (l := beB 2 r.pri.toNat) (m := beB 2 r.wt.toNat) rfl rfl (by simp only [List.length_append, beB_len]; decide))) ?_
    refine SegQ.step rfl rfl (fun w' hw' => Yd.fieldAddr rfl rfl) (SegQ.step rfl rfl (fun w' hw' => Yd.load1 rfl rfl ((hB3.ext hw').row _ _ rfl)) ?_)
    refine SegQ.call rfl rfl (own_of rfl) rfl (fun w' hw' => (oputI 2 r.pt w' (by decide) g3.1 (by have := g3.2; omega)).mono fun v w2 ⟨hv, h2⟩ => ⟨hv, hw'.trans h2⟩) ?_
    refine SegQ.step rfl rfl (fun w' hw' => (Yd.addS (l := beB 2 r.pri.toNat ++ beB 2 r.wt.toNat) (m := beB 2 r.pt.toNat) rfl rfl (by simp only [List.length_append, beB_len]; decide))) ?_
    refine SegQ.step rfl rfl (fun w' hw' => Yd.move rfl) ?_
    refine SegQ.step rfl rfl (fun w' hw' => (Yd.addS (l := beB 2 r.pri.toNat ++ beB 2 r.wt.toNat ++ beB 2 r.pt.toNat) (m := octN r.tg ++ [0]) rfl rfl (by simp only [List.length_append, beB_len, List.length_cons, List.length_nil]; omega))) ?_
    refine SegQ.step rfl rfl (fun w' hw' => Yd.move rfl) (SegQ.step rfl rfl (fun w' hw' => Yd.assign rfl) (SegQ.step rfl rfl (fun w' hw' => Yd.assign rfl) (SegQ.nil fun w120 hE120 => ?_)))
    replace hE94 := Ext.trans hE94 hE120
    replace hE44 := Ext.trans hE44 hE120
    replace hE12 := Ext.trans hE12 hE120
    replace hE3 := Ext.trans hE3 hE120
    replace hB3 := hB3.ext hE120
    replace ha := Ext.trans ha hE120
    replace hT := hT.ext hE120
    replace hE0 := Ext.trans hE0 hE120
    refine At.then_ (Cd.ret (At.blk_ret (At.then_ret ?_)))
    exact At.ret Tryz.results49 (.tmp rfl (.tmp rfl .nil)) ⟨beB 2 r.pri.toNat ++ beB 2 r.wt.toNat ++ beB 2 r.pt.toNat ++ (octN r.tg ++ [0]), 0, F, m, rfl, fun _ => ⟨hok (Classical.not_not.1 (by assumption)), s_rd hk hF hc g1 g2 g3⟩, hF, (by simp only [List.length_append, beB_len, List.length_cons, List.length_nil]; omega), hT, Nat.le_add_right _ _, Chg.of hE0⟩
set_option maxHeartbeats 400000 in
theorem rput6 (a0 : World) (r : Rec) (w : World) (po : Option Addr) (bm m at' : Nat) (F : List UInt8 → Option Nat) (ha : Ext a0 w) (hbm : a0.heap.size ≤ bm) (hr : RecAt a0 r) (hw : WfR r) (hf : FitR r) (hk : kdN r.ty r.cl = 6) (hT : TabV w po bm m F) (hF : okF F) (hm : m ≤ 900000) (hat : at' ≤ 900000) :
    Ret Tryz.prog 49 #[.agg r.cells.toArray, .int .i64 (at' : Nat), .pointer po] w fun v w' => ∃ out e F' m', v = .tuple #[.string ⟨out.toArray⟩, .int .i64 e] ∧ (e = 0 → RecOk r ∧ PutD r at' F out F') ∧ okF F' ∧ out.length ≤ 70000 ∧ TabV w' po bm m' F' ∧ m' ≤ m + 512 ∧ Chg po bm w w' := by
  have hE0 := Ext.refl w
  have kr : Keep (RecAt a0 r) := hr
  clear hr
  refine Ret.body Tryz.func49 rfl Tryz.ntmps49 rfl (Cd.seq (Cd.region (Seg.box rfl rfl rfl (fun w3 b3 hE3 hB3 hb3 => ?_))))
  have hlt3_0 := Nat.le_trans ha.size hb3
  have hlt3_1 := Nat.le_trans hE0.size hb3
  replace ha := Ext.trans ha hE3
  replace hT := hT.ext hE3
  replace hE0 := Ext.trans hE0 hE3
  refine Seg.step rfl rfl (Yd.assign rfl) (Seg.step rfl rfl (Yd.assign rfl) (Seg.nil (At.then_ (Cd.seq (Cd.seq (Cd.region (Seg.step rfl rfl (Yd.loadN rfl rfl rfl hB3.row) ?_)))))))
  (refine Seg.call rfl rfl (own_of rfl) rfl (rcheck_any r _ (RecAt.ext kr ha) hw hf) ?_; rintro _ w12 ⟨⟨e0, rfl, hok⟩, hE12⟩)
  replace hE3 := Ext.trans hE3 hE12
  replace hB3 := hB3.ext hE12
  replace ha := Ext.trans ha hE12
  replace hT := hT.ext hE12
  replace hE0 := Ext.trans hE0 hE12
  refine Seg.step rfl rfl (Yd.assign rfl) (Seg.nil (At.then_ (Cd.seq (Cd.region (Seg.step rfl rfl (Yd.move rfl) (Seg.step rfl rfl (Yd.neq rfl rfl) (Seg.nil ?_)))))))
  refine At.then_ ?_
  refine Cd.condk rfl (fun h22 => ?_) (fun h22 => ?_)
  · refine Cd.seq (Cd.region (Seg.step rfl rfl (Yd.move rfl) (Seg.step rfl rfl (Yd.assign rfl) (Seg.step rfl rfl (Yd.assign rfl) (Seg.nil (At.then_ (Cd.ret ?_)))))))
    refine At.then_ret ?_
    exact At.ret Tryz.results49 (.tmp rfl (.tmp rfl .nil)) ⟨[], _, F, m, rfl, fun h => absurd h (by assumption), hF, Nat.zero_le _, hT, Nat.le_add_right _ _, Chg.of hE0⟩
  · refine Cd.skip (At.then_ (Cd.seq (Cd.seq (Cd.region (Seg.step rfl rfl (Yd.fieldAddr rfl rfl) (Seg.step rfl rfl (Yd.load1 rfl rfl (hB3.row _ _ rfl)) (Seg.step rfl rfl (Yd.fieldAddr rfl rfl) ?_)))))))
    refine Seg.step rfl rfl (Yd.load1 rfl rfl (hB3.row _ _ rfl)) ?_
    (refine Seg.call rfl rfl (own_of rfl) rfl (rkind_any r.ty r.cl _) ?_; rw [hk]; rintro _ w44 ⟨rfl, hE44⟩)
    replace hE12 := Ext.trans hE12 hE44
    replace hE3 := Ext.trans hE3 hE44
    replace hB3 := hB3.ext hE44
    replace ha := Ext.trans ha hE44
    replace hT := hT.ext hE44
    replace hE0 := Ext.trans hE0 hE44
    refine Seg.nil (At.then_ (Cd.block (Cd.seq (Cd.region (Seg.step rfl rfl (Yd.eql rfl rfl) (Seg.step rfl rfl (Yd.assign rfl) (Seg.nil ?_)))))))
    refine At.then_ (Cd.condF rfl (Cd.seq (Cd.region (Seg.step rfl rfl (Yd.eql rfl rfl) (Seg.step rfl rfl (Yd.assign rfl) (Seg.nil (At.then_ ?_)))))))
    refine Cd.condF rfl (Cd.seq (Cd.seq (Cd.region (Seg.step rfl rfl (Yd.eql rfl rfl) (Seg.step rfl rfl (Yd.assign rfl) (Seg.nil (At.then_ ?_)))))))
    refine Cd.condF rfl (Cd.region (Seg.step rfl rfl (Yd.eql rfl rfl) (Seg.step rfl rfl (Yd.assign rfl) (Seg.nil (At.then_ (Cd.condF rfl (Cd.seq ?_)))))))
    refine Cd.region (Seg.step rfl rfl (Yd.eql rfl rfl) (Seg.step rfl rfl (Yd.assign rfl) (Seg.nil (At.then_ (Cd.condF rfl (Cd.seq (Cd.region ?_)))))))
    refine Seg.step rfl rfl (Yd.eql rfl rfl) (Seg.step rfl rfl (Yd.assign rfl) (Seg.nil (At.then_ (Cd.condT rfl (Cd.seq (Cd.region (Seg.step rfl rfl (Yd.loadN rfl rfl rfl hB3.row) ?_)))))))
    refine Seg.step rfl rfl (Yd.move rfl) (Seg.step rfl rfl (Yd.move rfl) ?_)
    (refine Seg.call rfl rfl (own_of rfl) rfl (rsoa_any a0 r _ po bm m at' F ha hbm kr (hok (Classical.not_not.1 (by assumption))) hk hT hF hm hat) ?_; rintro _ w95 ⟨o1, F1, m1, rfl, ⟨hP1, hF1, hl1⟩, hT1, hm1, hC1⟩; have kC : Keep (Chg po bm w w95) := (Chg.of hE0).trans hC1; clear hT ha hE0 hC1; have hEn := Ext.refl w95)
    refine Seg.step rfl rfl (Yd.extract rfl rfl) (Seg.step rfl rfl (Yd.extract rfl rfl) (Seg.step rfl rfl (Yd.assign rfl) (Seg.step rfl rfl (Yd.assign rfl) (Seg.nil (At.then_ (Cd.ret (At.blk_ret ?_)))))))
    refine At.then_ret ?_
    exact At.ret Tryz.results49 (.tmp rfl (.tmp rfl .nil)) ⟨o1, 0, F1, m1, rfl, fun _ => ⟨hok (Classical.not_not.1 (by assumption)), hP1⟩, hF1, by omega, hT1, by omega, kC.trans (Chg.of hEn)⟩
set_option maxHeartbeats 400000 in
theorem rput0 (a0 : World) (r : Rec) (w : World) (po : Option Addr) (bm m at' : Nat) (F : List UInt8 → Option Nat) (ha : Ext a0 w) (hbm : a0.heap.size ≤ bm) (hr : RecAt a0 r) (hw : WfR r) (hf : FitR r) (hk : kdN r.ty r.cl = 0) (hT : TabV w po bm m F) (hF : okF F) (hm : m ≤ 900000) (hat : at' ≤ 900000) :
    Ret Tryz.prog 49 #[.agg r.cells.toArray, .int .i64 (at' : Nat), .pointer po] w fun v w' => ∃ out e F' m', v = .tuple #[.string ⟨out.toArray⟩, .int .i64 e] ∧ (e = 0 → RecOk r ∧ PutD r at' F out F') ∧ okF F' ∧ out.length ≤ 70000 ∧ TabV w' po bm m' F' ∧ m' ≤ m + 512 ∧ Chg po bm w w' := by
  have hE0 := Ext.refl w
  have kr : Keep (RecAt a0 r) := hr
  clear hr
  refine Ret.body Tryz.func49 rfl Tryz.ntmps49 rfl (Cd.seq (Cd.region (Seg.box rfl rfl rfl (fun w3 b3 hE3 hB3 hb3 => ?_))))
  have hlt3_0 := Nat.le_trans ha.size hb3
  have hlt3_1 := Nat.le_trans hE0.size hb3
  replace ha := Ext.trans ha hE3
  replace hT := hT.ext hE3
  replace hE0 := Ext.trans hE0 hE3
  refine Seg.step rfl rfl (Yd.assign rfl) (Seg.step rfl rfl (Yd.assign rfl) (Seg.nil (At.then_ (Cd.seq (Cd.seq (Cd.region (Seg.step rfl rfl (Yd.loadN rfl rfl rfl hB3.row) ?_)))))))
  (refine Seg.call rfl rfl (own_of rfl) rfl (rcheck_any r _ (RecAt.ext kr ha) hw hf) ?_; rintro _ w12 ⟨⟨e0, rfl, hok⟩, hE12⟩)
  replace hE3 := Ext.trans hE3 hE12
  replace hB3 := hB3.ext hE12
  replace ha := Ext.trans ha hE12
  replace hT := hT.ext hE12
  replace hE0 := Ext.trans hE0 hE12
  refine Seg.step rfl rfl (Yd.assign rfl) (Seg.nil (At.then_ (Cd.seq (Cd.region (Seg.step rfl rfl (Yd.move rfl) (Seg.step rfl rfl (Yd.neq rfl rfl) (Seg.nil ?_)))))))
  refine At.then_ ?_
  refine Cd.condk rfl (fun h22 => ?_) (fun h22 => ?_)
  · refine Cd.seq (Cd.region (Seg.step rfl rfl (Yd.move rfl) (Seg.step rfl rfl (Yd.assign rfl) (Seg.step rfl rfl (Yd.assign rfl) (Seg.nil (At.then_ (Cd.ret ?_)))))))
    refine At.then_ret ?_
    exact At.ret Tryz.results49 (.tmp rfl (.tmp rfl .nil)) ⟨[], _, F, m, rfl, fun h => absurd h (by assumption), hF, Nat.zero_le _, hT, Nat.le_add_right _ _, Chg.of hE0⟩
  · refine Cd.skip (At.then_ (Cd.seq (Cd.seq (Cd.region (Seg.step rfl rfl (Yd.fieldAddr rfl rfl) (Seg.step rfl rfl (Yd.load1 rfl rfl (hB3.row _ _ rfl)) (Seg.step rfl rfl (Yd.fieldAddr rfl rfl) ?_)))))))
    refine Seg.step rfl rfl (Yd.load1 rfl rfl (hB3.row _ _ rfl)) ?_
    (refine Seg.call rfl rfl (own_of rfl) rfl (rkind_any r.ty r.cl _) ?_; rw [hk]; rintro _ w44 ⟨rfl, hE44⟩)
    replace hE12 := Ext.trans hE12 hE44
    replace hE3 := Ext.trans hE3 hE44
    replace hB3 := hB3.ext hE44
    replace ha := Ext.trans ha hE44
    replace hT := hT.ext hE44
    replace hE0 := Ext.trans hE0 hE44
    refine Seg.nil (At.then_ (Cd.block (Cd.seq (Cd.region (Seg.step rfl rfl (Yd.eql rfl rfl) (Seg.step rfl rfl (Yd.assign rfl) (Seg.nil ?_)))))))
    refine At.then_ (Cd.condF rfl (Cd.seq (Cd.region (Seg.step rfl rfl (Yd.eql rfl rfl) (Seg.step rfl rfl (Yd.assign rfl) (Seg.nil (At.then_ ?_)))))))
    refine Cd.condF rfl (Cd.seq (Cd.seq (Cd.region (Seg.step rfl rfl (Yd.eql rfl rfl) (Seg.step rfl rfl (Yd.assign rfl) (Seg.nil (At.then_ ?_)))))))
    refine Cd.condF rfl (Cd.region (Seg.step rfl rfl (Yd.eql rfl rfl) (Seg.step rfl rfl (Yd.assign rfl) (Seg.nil (At.then_ (Cd.condF rfl (Cd.seq ?_)))))))
    refine Cd.region (Seg.step rfl rfl (Yd.eql rfl rfl) (Seg.step rfl rfl (Yd.assign rfl) (Seg.nil (At.then_ (Cd.condF rfl (Cd.seq (Cd.region ?_)))))))
    refine Seg.step rfl rfl (Yd.eql rfl rfl) (Seg.step rfl rfl (Yd.assign rfl) (Seg.nil (At.then_ (Cd.condF rfl (Cd.skip (At.blk (At.then_ ?_)))))))
    refine Cd.seq (Cd.region (Seg.step rfl rfl (Yd.fieldAddr rfl rfl) (Seg.step rfl rfl (Yd.load1 rfl rfl (hB3.row _ _ rfl)) (Seg.step rfl rfl (Yd.assign rfl) (Seg.step rfl rfl (Yd.assign rfl) (Seg.nil (At.then_ ?_)))))))
    refine Cd.ret ?_
    exact At.ret Tryz.results49 (.tmp rfl (.tmp rfl .nil)) ⟨r.raw, 0, F, m, rfl, fun _ => ⟨hok (Classical.not_not.1 (by assumption)), r_rd hk⟩, hF, hf.2.2.2, hT, Nat.le_add_right _ _, Chg.of hE0⟩
theorem rput_any (a0 : World) (r : Rec) (w : World) (po : Option Addr) (bm m at' : Nat) (F : List UInt8 → Option Nat) (ha : Ext a0 w) (hbm : a0.heap.size ≤ bm) (hr : RecAt a0 r) (hw : WfR r) (hf : FitR r) (hT : TabV w po bm m F) (hF : okF F) (hm : m ≤ 900000) (hat : at' ≤ 900000) :
    Ret Tryz.prog 49 #[.agg r.cells.toArray, .int .i64 (at' : Nat), .pointer po] w fun v w' => ∃ out e F' m', v = .tuple #[.string ⟨out.toArray⟩, .int .i64 e] ∧ (e = 0 → RecOk r ∧ PutD r at' F out F') ∧ okF F' ∧ out.length ≤ 70000 ∧ TabV w' po bm m' F' ∧ m' ≤ m + 512 ∧ Chg po bm w w' := by
  rcases kd_cases r.ty r.cl with h | h | h | h | h | h | h
  · exact rput1 a0 r w po bm m at' F ha hbm hr hw hf h hT hF hm hat
  · exact rput28 a0 r w po bm m at' F ha hbm hr hw hf h hT hF hm hat
  · exact rput5 a0 r w po bm m at' F ha hbm hr hw hf h hT hF hm hat
  · exact rput12 a0 r w po bm m at' F ha hbm hr hw hf h hT hF hm hat
  · exact rput33 a0 r w po bm m at' F ha hbm hr hw hf h hT hF hm hat
  · exact rput6 a0 r w po bm m at' F ha hbm hr hw hf h hT hF hm hat
  · exact rput0 a0 r w po bm m at' F ha hbm hr hw hf h hT hF hm hat
end Go.Proofs.YtahpiaaffeiadaaGreat
