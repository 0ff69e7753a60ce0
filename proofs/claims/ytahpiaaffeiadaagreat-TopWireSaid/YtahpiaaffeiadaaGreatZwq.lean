/- Questions and records written. -/
import Derived.Test.YtahpiaaffeiadaaGreatZpq
namespace Go.Proofs.YtahpiaaffeiadaaGreat
open Go Go.RowKit
/-- A record can be read in s, from a to b. -/
def RecRd (s : List UInt8) (a : Nat) (r : Rec) (b : Nat) : Prop :=
  ∃ f e, Rdn s f a a r.nm e ∧ (e + 10 ≤ b ∧ b ≤ s.length) ∧ (r.ty = (deB ((s.drop e).take 2) : Nat) ∧ r.cl = (deB ((s.drop (e + 2)).take 2) : Nat) ∧ r.ttl = (deB ((s.drop (e + 4)).take 4) : Nat) ∧ b - (e + 10) = deB ((s.drop (e + 8)).take 2)) ∧ DatRd (s.take b) (e + 10) r ∧ RecOk r
theorem dt_more (s Y : List UInt8) {x k : Nat} (h : x + k ≤ s.length) : ((s ++ Y).drop x).take k = (s.drop x).take k := by
  rw [List.drop_append_of_le_length (by omega)]
  exact List.take_append_of_le_length (by rw [List.length_drop]; omega)
theorem RecRd.more {s : List UInt8} (Y : List UInt8) {a b : Nat} {r : Rec} (h : RecRd s a r b) : RecRd (s ++ Y) a r b := by
  obtain ⟨f, e, h1, h2, ⟨h3, h4, h5, h6⟩, h7, h8⟩ := h
  refine ⟨f, e, h1.more Y, ⟨h2.1, by rw [List.length_append]; omega⟩, ⟨?_, ?_, ?_, ?_⟩, ?_, h8⟩
  · rw [dt_more _ _ (by omega)]; exact h3
  · rw [dt_more _ _ (by omega)]; exact h4
  · rw [dt_more _ _ (by omega)]; exact h5
  · rw [dt_more _ _ (by omega)]; exact h6
  · rw [List.take_append_of_le_length h2.2]; exact h7
theorem rec_rd {r : Rec} {X o1 dt : List UInt8} {F F1 F2 : List UInt8 → Option Nat} (hok : RecOk r) (h1 : PutOk r.nm X.length F o1 F1) (h2 : PutD r ((X ++ o1 ++ beB 2 r.ty.toNat ++ beB 2 r.cl.toNat ++ beB 4 r.ttl.toNat).length + 2) F1 dt F2) (hl : dt.length < 65536) (hT : TabRd X F) :
    TabRd (X ++ o1 ++ beB 2 r.ty.toNat ++ beB 2 r.cl.toNat ++ beB 4 r.ttl.toNat ++ beB 2 dt.length ++ dt) F2 ∧ RecRd (X ++ o1 ++ beB 2 r.ty.toNat ++ beB 2 r.cl.toNat ++ beB 4 r.ttl.toNat ++ beB 2 dt.length ++ dt) X.length r (X ++ o1 ++ beB 2 r.ty.toNat ++ beB 2 r.cl.toNat ++ beB 4 r.ttl.toNat ++ beB 2 dt.length ++ dt).length := by
  obtain ⟨⟨f, g1⟩, t1⟩ := h1.rd X rfl hT
  obtain ⟨d1, t2⟩ := h2.rd (X ++ o1 ++ beB 2 r.ty.toNat ++ beB 2 r.cl.toNat ++ beB 4 r.ttl.toNat ++ beB 2 dt.length) (by rw [List.length_append, beB_len]) ((((t1.more _).more _).more _).more _)
  refine ⟨t2, f, X.length + o1.length, ?_, ?_, ⟨?_, ?_, ?_, ?_⟩, ?_, hok⟩
  · exact ((((g1.more _).more _).more _).more _).more _
  · simp only [List.length_append, beB_len]; omega
  · have q := de_mid (X ++ o1) (beB 2 r.cl.toNat ++ (beB 4 r.ttl.toNat ++ (beB 2 dt.length ++ dt))) 2 r.ty.toNat (u16_lt hok.2.1)
    simp only [List.length_append, List.append_assoc] at q ⊢
    rw [q]
    exact (Int.toNat_of_nonneg hok.2.1.1).symm
  · have q := de_mid (X ++ o1 ++ beB 2 r.ty.toNat) (beB 4 r.ttl.toNat ++ (beB 2 dt.length ++ dt)) 2 r.cl.toNat (u16_lt hok.2.2.1)
    simp only [List.length_append, beB_len, List.append_assoc] at q ⊢
    rw [← Nat.add_assoc] at q
    rw [q]
    exact (Int.toNat_of_nonneg hok.2.2.1.1).symm
  · have q := de_mid (X ++ o1 ++ beB 2 r.ty.toNat ++ beB 2 r.cl.toNat) (beB 2 dt.length ++ dt) 4 r.ttl.toNat (u32_lt hok.2.2.2.1)
    simp only [List.length_append, beB_len, List.append_assoc] at q ⊢
    rw [show X.length + (o1.length + (2 + 2)) = X.length + o1.length + 4 by omega] at q
    rw [q]
    exact (Int.toNat_of_nonneg hok.2.2.2.1.1).symm
  · have q := de_mid (X ++ o1 ++ beB 2 r.ty.toNat ++ beB 2 r.cl.toNat ++ beB 4 r.ttl.toNat) dt 2 dt.length (by rw [show (256 : Nat) ^ 2 = 65536 by decide]; exact hl)
    simp only [List.length_append, beB_len, List.append_assoc] at q ⊢
    rw [show X.length + (o1.length + (2 + (2 + 4))) = X.length + o1.length + 8 by omega] at q
    rw [q]
    omega
  · rw [List.take_length]
    rw [show X.length + o1.length + 10 = (X ++ o1 ++ beB 2 r.ty.toNat ++ beB 2 r.cl.toNat ++ beB 4 r.ttl.toNat).length + 2 by simp only [List.length_append, beB_len]]
    exact d1
theorem q_rd {n : List (List UInt8)} {X out : List UInt8} {F F1 : List UInt8 → Option Nat} {kind cls : Nat} (h : PutOk n X.length F out F1) (hz : szN n ≤ 255) (hk : kind < 65536) (hc : cls < 65536) (hT : TabRd X F) : TabRd (X ++ out ++ beB 2 kind ++ beB 2 cls) F1 ∧ QsRd (X ++ out ++ beB 2 kind ++ beB 2 cls) X.length [⟨n, kind, cls⟩] (X ++ out ++ beB 2 kind ++ beB 2 cls).length := by
  obtain ⟨⟨f, g1⟩, t1⟩ := h.rd X rfl hT
  have e2 : (256 : Nat) ^ 2 = 65536 := by decide
  refine ⟨(t1.more _).more _, f, X.length + out.length, (g1.more _).more _, hz, ?_, ?_, ?_, ?_⟩
  · simp only [List.length_append, beB_len]; exact Nat.le_of_eq rfl
  · have q := de_mid (X ++ out) (beB 2 cls) 2 kind (by omega)
    simp only [List.length_append, List.append_assoc] at q ⊢
    exact q.symm
  · have q := de_mid (X ++ out ++ beB 2 kind) [] 2 cls (by omega)
    simp only [List.length_append, beB_len, List.append_assoc, List.append_nil] at q ⊢
    rw [← Nat.add_assoc] at q
    exact q.symm
  · show X.length + out.length + 4 = _
    simp only [List.length_append, beB_len]
theorem vnumI (a0 : World) (p base bm m k : Nat) (v : Int) (X : List UInt8) (po : Option Addr) (F : List UInt8 → Option Nat) (w : World) (h : WrV w p base X po bm m F) (ha : Ext a0 w) (hp : a0.heap.size ≤ p) (hab : a0.heap.size ≤ base) (hb : base ≤ w.heap.size) (hk : k ≤ 4) (h0 : 0 ≤ v) (hv : v < 4611686018427387904) (hl : X.length ≤ 1000000) :
    Ret Tryz.prog 48 #[.pointer (some ⟨p, 0, none⟩), .int .i64 (k : Int), .int .i64 v] w fun _ w' => WrV w' p base (X ++ beB k v.toNat) po bm m F ∧ Ext a0 w' ∧ w.heap.size ≤ w'.heap.size ∧ KeepB p w w' := by
  obtain ⟨n, rfl⟩ : ∃ n : Nat, v = (n : Int) := ⟨v.toNat, (Int.toNat_of_nonneg h0).symm⟩
  exact vnum_any a0 p base bm m k n X po F w h ha hp hab hb hk (by omega) hl
theorem name_slc {w : World} {v : Value} {n : List (List UInt8)} (h : NameAt w v n) : ∀ i, v ≠ .int .u8 i := by
  obtain ⟨ao, c, rfl, _⟩ := h; exact slc_int _ _ _
/-- What the writing of something has done. -/
structure WDone (a0 : World) (p base bm m : Nat) (X : List UInt8) (po : Option Addr) (F : List UInt8 → Option Nat) (w w' : World) (X' : List UInt8) (F' : List UInt8 → Option Nat) (m' : Nat) : Prop where
  at' : WrV w' p base X' po bm m' F'
  ok : okF F'
  pre : ∃ Y, X' = X ++ Y
  len : X'.length ≤ X.length + 71000
  ext : Ext a0 w'
  size : w.heap.size ≤ w'.heap.size
  keep : KeepB p w w'
  le : m' ≤ m + 768
set_option maxHeartbeats 400000 in
theorem vquest_any (a0 : World) (n : List (List UInt8)) (v0 : Value) (p base bm m kind cls : Nat) (X : List UInt8) (po : Option Addr) (F : List UInt8 → Option Nat) (w : World) (h : WrV w p base X po bm m F) (hF : okF F) (ha : Ext a0 w) (hp : a0.heap.size ≤ p) (hbm : a0.heap.size ≤ bm) (hab : a0.heap.size ≤ base) (hb : base ≤ w.heap.size) (hl : X.length ≤ 800000)
    (h0 : NameAt a0 v0 n) (hc : chkN n = 0) (hm : m ≤ 900000) (hki : kind < 65536) (hcl : cls < 65536) :
    Ret Tryz.prog 19 #[.pointer (some ⟨p, 0, none⟩), .agg #[v0, .int .i64 (kind : Int), .int .i64 (cls : Int)]] w fun v w' => v = .int .i64 0 ∧ ∃ X' F' m', WDone a0 p base bm m X po F w w' X' F' m' ∧ (TabRd X F → TabRd X' F' ∧ QsRd X' X.length [⟨n, kind, cls⟩] X'.length) := by
  have hE0 := Ext.refl w
  have hpw : p < w.heap.size := by obtain ⟨vo, h1, _⟩ := h; exact h1.lt
  have hsl : ∃ ao co, v0 = .slice ao n.length co := by obtain ⟨ao, co, e, _⟩ := h0; exact ⟨ao, co, e⟩
  obtain ⟨ao, co, rfl⟩ := hsl
  refine Ret.body Tryz.func19 rfl Tryz.ntmps19 rfl (Cd.seq (Cd.region (Seg.box rfl rfl rfl (fun w3 b3 hE3 hB3 hb3 => ?_))))
  have hlt3_0 := Nat.le_trans ha.size hb3
  have hlt3_1 := Nat.le_trans hE0.size hb3
  replace h := h.ext hE3
  replace ha := Ext.trans ha hE3
  replace hE0 := Ext.trans hE0 hE3
  refine Seg.step rfl rfl (Yd.assign rfl) (Seg.nil (At.then_ (Cd.seq (Cd.region (Seg.step rfl rfl (Yd.move rfl) (Seg.step rfl rfl (Yd.fieldAddr rfl rfl) (Seg.step rfl rfl (Yd.load1 rfl rfl (hB3.row _ _ rfl)) ?_)))))))
  (refine Seg.call rfl rfl (own_of rfl) rfl (vname_any a0 n _ p base bm m X po F _ h hF ha hp hbm hab (Nat.le_trans hb (Below.size hE0)) (by omega) h0 hc (by omega)) ?_; rintro _ w12 ⟨rfl, out, F1, m1, hPO, hD⟩; have hol := hPO.len; have hP6 := hD.at'; have hE6 := hD.ext; have hS6 := Nat.le_trans (Below.size hE0) hD.size; have hB6 := hD.keep _ _ _ hB3 (slc_int _ _ _) (by omega); have hK6 := (KeepB.of (p := p) hE0).trans hD.keep; have hm1 := hD.le; have hl1 : (X ++ out).length = X.length + out.length := List.length_append; clear h ha hE0 hB3 hD)
  refine Seg.step rfl rfl (Yd.assign rfl) (Seg.nil (At.then_ (Cd.seq (Cd.region (Seg.step rfl rfl (Yd.move rfl) (Seg.step rfl rfl (Yd.fieldAddr rfl rfl) (Seg.step rfl rfl (Yd.load1 rfl rfl (hB6.row _ _ rfl)) ?_)))))))
  (refine Seg.call rfl rfl (own_of rfl) rfl (vnum_any a0 p base bm m1 2 kind (X ++ out) po _ _ hP6 hE6 hp hab (Nat.le_trans hb hS6) (by omega) (by omega) (by omega)) ?_; rintro _ w21 ⟨hP21, hE21, hS21, hK21⟩; have hP7 := hP21; have hE7 := hE21; have hS7 := Nat.le_trans hS6 hS21; have hB7 := hK21 _ _ _ hB6 (slc_int _ _ _) (by omega); have hK7 := hK6.trans hK21; have hl2 : (X ++ out ++ beB 2 kind).length = X.length + out.length + 2 := (by rw [List.length_append, hl1, beB_len]); clear hP21 hE21 hS21 hK21 hP6 hE6 hS6 hB6 hK6)
  refine Seg.nil (At.then_ (Cd.seq (Cd.region (Seg.step rfl rfl (Yd.move rfl) (Seg.step rfl rfl (Yd.fieldAddr rfl rfl) (Seg.step rfl rfl (Yd.load1 rfl rfl (hB7.row _ _ rfl)) ?_))))))
  (refine Seg.call rfl rfl (own_of rfl) rfl (vnum_any a0 p base bm m1 2 cls (X ++ out ++ beB 2 kind) po _ _ hP7 hE7 hp hab (Nat.le_trans hb hS7) (by omega) (by omega) (by omega)) ?_; rintro _ w29 ⟨hP29, hE29, hS29, hK29⟩; have hP8 := hP29; have hE8 := hE29; have hS8 := Nat.le_trans hS7 hS29; have hK8 := hK7.trans hK29; clear hP29 hE29 hS29 hK29 hP7 hE7 hS7 hB7 hK7)
  refine Seg.nil (At.then_ (Cd.seq (Cd.region (Seg.step rfl rfl (Yd.move rfl) (Seg.step rfl rfl (Yd.assign rfl) (Seg.nil (At.then_ ?_)))))))
  refine Cd.ret ?_
  exact At.ret Tryz.results19 (.tmp rfl .nil) ⟨rfl, _, F1, m1, ⟨hP8, hPO.ok, ⟨_, by rw [List.append_assoc, List.append_assoc]⟩, by rw [List.length_append, hl2, beB_len]; omega, hE8, hS8, hK8, by omega⟩, q_rd hPO (chk_ok hc).2 hki hcl⟩
set_option maxHeartbeats 400000 in
theorem vrecord_any (a0 : World) (r : Rec) (p base bm m : Nat) (X : List UInt8) (po : Option Addr) (F : List UInt8 → Option Nat) (w : World) (h : WrV w p base X po bm m F) (hF : okF F) (ha : Ext a0 w) (hp : a0.heap.size ≤ p) (hbm : a0.heap.size ≤ bm) (hab : a0.heap.size ≤ base) (hb : base ≤ w.heap.size) (hl : X.length ≤ 800000)
    (hr : RecAt a0 r) (hw : WfR r) (hf : FitR r) (hok : RecOk r) (hm : m ≤ 800000) (hbl : bm < w.heap.size) :
    Ret Tryz.prog 21 #[.pointer (some ⟨p, 0, none⟩), .agg r.cells.toArray] w fun v w' => ∃ e, v = .int .i64 e ∧ ∃ X' F' m', WDone a0 p base bm m X po F w w' X' F' m' ∧ (e = 0 → X'.length ≤ 65535 → TabRd X F → TabRd X' F' ∧ RecRd X' X.length r X'.length) := by
  have hE0 := Ext.refl w
  have hpw : p < w.heap.size := by obtain ⟨vo, h1, _⟩ := h; exact h1.lt
  have kr : Keep (RecAt a0 r) := hr
  have hvn := name_slc hr.1
  clear hr
  refine Ret.body Tryz.func21 rfl Tryz.ntmps21 rfl (Cd.seq (Cd.region (Seg.box rfl rfl rfl (fun w3 b3 hE3 hB3 hb3 => ?_))))
  have hlt3_0 := Nat.le_trans ha.size hb3
  have hlt3_1 := Nat.le_trans hE0.size hb3
  replace h := h.ext hE3
  replace ha := Ext.trans ha hE3
  replace hE0 := Ext.trans hE0 hE3
  refine Seg.step rfl rfl (Yd.assign rfl) (Seg.nil (At.then_ (Cd.seq (Cd.seq (Cd.region (Seg.step rfl rfl (Yd.move rfl) (Seg.step rfl rfl (Yd.fieldAddr rfl rfl) ?_)))))))
  refine Seg.step rfl rfl (Yd.load1 rfl rfl (hB3.row _ _ rfl)) ?_
  (refine Seg.call rfl rfl (own_of rfl) rfl (vname_any a0 r.nm r.vn p base bm m X po F _ h hF ha hp hbm hab (Nat.le_trans hb (Below.size hE0)) (by omega) (show NameAt a0 r.vn r.nm from kr.1) hok.1 (by omega)) ?_; rintro _ w13 ⟨rfl, out, F1, m1, hPO, hD⟩; have hol := hPO.len; have hP6 := hD.at'; have hE6 := hD.ext; have hS6 := Nat.le_trans (Below.size hE0) hD.size; have hB6 : Bx w13 b3 r.cells := hD.keep _ _ _ hB3 hvn (by omega); have hK6 := (KeepB.of (p := p) hE0).trans hD.keep; have hm1 := hD.le; have hl1 : (X ++ out).length = X.length + out.length := List.length_append; clear h ha hE0 hB3 hD)
  refine Seg.step rfl rfl (Yd.assign rfl) (Seg.nil (At.then_ (Cd.seq (Cd.region (Seg.step rfl rfl (Yd.move rfl) (Seg.step rfl rfl (Yd.neq rfl rfl) (Seg.nil ?_)))))))
  refine At.then_ (Cd.condF rfl (Cd.skip (At.then_ (Cd.seq (Cd.region (Seg.step rfl rfl (Yd.move rfl) (Seg.step rfl rfl (Yd.fieldAddr rfl rfl) ?_)))))))
  refine Seg.step rfl rfl (Yd.load1 rfl rfl (hB6.row _ _ rfl)) ?_
  (refine Seg.call rfl rfl (own_of rfl) rfl (vnumI a0 p base bm m1 2 r.ty (X ++ out) po _ _ hP6 hE6 hp hab (Nat.le_trans hb hS6) (by omega) hok.2.1.1 (by have := hok.2.1.2; omega) (by omega)) ?_; rintro _ w31 ⟨hP31, hE31, hS31, hK31⟩; have hP7 := hP31; have hE7 := hE31; have hS7 := Nat.le_trans hS6 hS31; have hB7 : Bx w31 b3 r.cells := hK31 _ _ _ hB6 hvn (by omega); have hK7 := hK6.trans hK31; have hl2 : (X ++ out ++ beB 2 r.ty.toNat).length = X.length + out.length + 2 := (by rw [List.length_append, hl1, beB_len]); clear hP31 hE31 hS31 hK31 hP6 hE6 hS6 hB6 hK6)
  refine Seg.nil (At.then_ (Cd.seq (Cd.region (Seg.step rfl rfl (Yd.move rfl) (Seg.step rfl rfl (Yd.fieldAddr rfl rfl) (Seg.step rfl rfl (Yd.load1 rfl rfl (hB7.row _ _ rfl)) ?_))))))
  (refine Seg.call rfl rfl (own_of rfl) rfl (vnumI a0 p base bm m1 2 r.cl (X ++ out ++ beB 2 r.ty.toNat) po _ _ hP7 hE7 hp hab (Nat.le_trans hb hS7) (by omega) hok.2.2.1.1 (by have := hok.2.2.1.2; omega) (by omega)) ?_; rintro _ w39 ⟨hP39, hE39, hS39, hK39⟩; have hP8 := hP39; have hE8 := hE39; have hS8 := Nat.le_trans hS7 hS39; have hB8 : Bx w39 b3 r.cells := hK39 _ _ _ hB7 hvn (by omega); have hK8 := hK7.trans hK39; have hl3 : (X ++ out ++ beB 2 r.ty.toNat ++ beB 2 r.cl.toNat).length = X.length + out.length + 4 := (by rw [List.length_append, hl2, beB_len]); clear hP39 hE39 hS39 hK39 hP7 hE7 hS7 hB7 hK7)
  refine Seg.nil (At.then_ (Cd.seq (Cd.region (Seg.step rfl rfl (Yd.move rfl) (Seg.step rfl rfl (Yd.fieldAddr rfl rfl) (Seg.step rfl rfl (Yd.load1 rfl rfl (hB8.row _ _ rfl)) ?_))))))
  (refine Seg.call rfl rfl (own_of rfl) rfl (vnumI a0 p base bm m1 4 r.ttl (X ++ out ++ beB 2 r.ty.toNat ++ beB 2 r.cl.toNat) po _ _ hP8 hE8 hp hab (Nat.le_trans hb hS8) (by omega) hok.2.2.2.1.1 (by have := hok.2.2.2.1.2; omega) (by omega)) ?_; rintro _ w47 ⟨hP47, hE47, hS47, hK47⟩; have hP9 := hP47; have hE9 := hE47; have hS9 := Nat.le_trans hS8 hS47; have hB9 : Bx w47 b3 r.cells := hK47 _ _ _ hB8 hvn (by omega); have hK9 := hK8.trans hK47; have hl4 : (X ++ out ++ beB 2 r.ty.toNat ++ beB 2 r.cl.toNat ++ beB 4 r.ttl.toNat).length = X.length + out.length + 8 := (by rw [List.length_append, hl3, beB_len]); clear hP47 hE47 hS47 hK47 hP8 hE8 hS8 hB8 hK8; have hEn := Ext.refl w47)
  refine Seg.nil (At.then_ (Cd.seq ?_))
  obtain ⟨vo, p1, p2, p3, pX, pbm⟩ := hP9
  have pvo := p2.slc
  obtain ⟨po1, po2, rfl, _, _, _⟩ := p2.sl
  have hbne : b3 ≠ bm := by omega
  refine Cd.heldB bm 17 (by kernel_rfl) (fun w2 hE2 => ?_)
  have p1 := p1.ext hE2
  have p3 := TabV.ext p3 hE2
  have ha := Ext.trans hE9 hE2
  have hB := hB9.ext hE2
  refine SegB.take 0 rfl (by kernel_rfl) (by kernel_rfl) (by kernel_rfl) (by kernel_rfl) (by kernel_rfl) rfl rfl (fun w' hw' => Yd.loadN rfl rfl rfl (hB.wr hw' hbne).row) (SegB.take 1 rfl (by kernel_rfl) (by kernel_rfl) (by kernel_rfl) (by kernel_rfl) (by kernel_rfl) rfl rfl (fun w' hw' => Yd.move rfl) (SegB.take 2 rfl (by kernel_rfl) (by kernel_rfl) (by kernel_rfl) (by kernel_rfl) (by kernel_rfl) rfl rfl (fun w' hw' => Yd.nilCheckP rfl) (SegB.take 3 rfl (by kernel_rfl) (by kernel_rfl) (by kernel_rfl) (by kernel_rfl) (by kernel_rfl) rfl rfl (fun w' hw' => Yd.fieldAddr rfl rfl) (SegB.take 4 rfl (by kernel_rfl) (by kernel_rfl) (by kernel_rfl) (by kernel_rfl) (by kernel_rfl) rfl rfl (fun w' hw' => Yd.load1 rfl rfl ((p1.wr hw' pbm).row _ _ rfl)) (SegB.take 5 rfl (by kernel_rfl) (by kernel_rfl) (by kernel_rfl) (by kernel_rfl) (by kernel_rfl) rfl rfl (fun w' hw' => Yd.lenS rfl rfl) (SegB.take 6 rfl (by kernel_rfl) (by kernel_rfl) (by kernel_rfl) (by kernel_rfl) (by kernel_rfl) rfl rfl (fun w' hw' => Yd.addI rfl rfl ⟨by omega, by omega⟩) (SegB.take 7 rfl (by kernel_rfl) (by kernel_rfl) (by kernel_rfl) (by kernel_rfl) (by kernel_rfl) rfl rfl (fun w' hw' => Yd.move rfl) ?_)))))))
  refine SegB.take 8 rfl (by kernel_rfl) (by kernel_rfl) (by kernel_rfl) (by kernel_rfl) (by kernel_rfl) rfl rfl (fun w' hw' => Yd.nilCheckP rfl) (SegB.take 9 rfl (by kernel_rfl) (by kernel_rfl) (by kernel_rfl) (by kernel_rfl) (by kernel_rfl) rfl rfl (fun w' hw' => Yd.fieldAddr rfl rfl) (SegB.take 10 rfl (by kernel_rfl) (by kernel_rfl) (by kernel_rfl) (by kernel_rfl) (by kernel_rfl) rfl rfl (fun w' hw' => Yd.load1 rfl rfl ((p1.wr hw' pbm).row _ _ rfl)) (SegB.oneSeg (o := ⟨_, _, _, _, _, _⟩) 11 rfl (by kernel_rfl) ?_)))
  have hnl : ((X ++ out ++ beB 2 r.ty.toNat ++ beB 2 r.cl.toNat ++ beB 4 r.ttl.toNat).length : Int) + 2 = (((X ++ out ++ beB 2 r.ty.toNat ++ beB 2 r.cl.toNat ++ beB 4 r.ttl.toNat).length + 2 : Nat) : Int) := rfl
  rw [hnl]
  refine Seg.call rfl rfl (own_of rfl) rfl (rput_any a0 r _ po bm m1 _ F1 ha hbm kr hw hf p3 hPO.ok (by omega) (by omega)) ?_
  rintro _ w3 ⟨dt, e, F2, m2, rfl, hPD, hF2, hdl, hT2, hm2, hC3⟩
  have hW3 := hC3.wr
  have q1 := p1.wr hW3 pbm
  have q2 := (p2.ext hE2).chg p3 hC3
  have q3 := hT2
  have hE10 : Ext a0 w3 := Ext.wr' ha hW3 hbm
  have hS10 : w.heap.size ≤ w3.heap.size := Nat.le_trans hS9 (Nat.le_trans (Below.size hE2) hW3.size)
  have hK10 := (hK9.trans (KeepB.of (p := p) hE2)).trans (KeepB.chg (p := p) p3 hC3)
  have hP10 : WrV w3 p base _ po bm m2 F2 := ⟨_, q1, q2, q3, pX, pbm⟩
  clear p1 p2 p3 hB ha hE9 hE2 hB9 hS9 hK9 hC3 q1 q2 q3 hEn
  have hEn := Ext.refl w3
  refine SegB.back rfl hW3 (SegB.take 12 rfl (by kernel_rfl) (by kernel_rfl) (by kernel_rfl) (by kernel_rfl) (by kernel_rfl) rfl rfl (fun w' hw' => Yd.move rfl) (SegB.take 13 rfl (by kernel_rfl) (by kernel_rfl) (by kernel_rfl) (by kernel_rfl) (by kernel_rfl) rfl rfl (fun w' hw' => Yd.extract rfl rfl) (SegB.take 14 rfl (by kernel_rfl) (by kernel_rfl) (by kernel_rfl) (by kernel_rfl) (by kernel_rfl) rfl rfl (fun w' hw' => Yd.extract rfl rfl) (SegB.take 15 rfl (by kernel_rfl) (by kernel_rfl) (by kernel_rfl) (by kernel_rfl) (by kernel_rfl) rfl rfl (fun w' hw' => Yd.assign rfl) (SegB.take 16 rfl (by kernel_rfl) (by kernel_rfl) (by kernel_rfl) (by kernel_rfl) (by kernel_rfl) rfl rfl (fun w' hw' => Yd.assign rfl) (SegB.done (by kernel_rfl) (At.then_ ?_)))))))
  refine Cd.seq (Cd.region (Seg.step rfl rfl (Yd.move rfl) (Seg.step rfl rfl (Yd.move rfl) (Seg.step rfl rfl (Yd.lenStr rfl rfl) ?_))))
  (refine Seg.call rfl rfl (own_of rfl) rfl (vnum_any a0 p base bm m2 2 dt.length (X ++ out ++ beB 2 r.ty.toNat ++ beB 2 r.cl.toNat ++ beB 4 r.ttl.toNat) po F2 _ hP10 hE10 hp hab (Nat.le_trans hb hS10) (by omega) (by omega) (by omega)) ?_; rintro _ w53 ⟨hP53, hE53, hS53, hK53⟩; obtain ⟨vo, p1, p2, p3, pX2, pbm2⟩ := hP53; have hE11 := hE53; have hS11 := Nat.le_trans hS10 hS53; have hK11 := hK10.trans hK53; have hl5 : (X ++ out ++ beB 2 r.ty.toNat ++ beB 2 r.cl.toNat ++ beB 4 r.ttl.toNat ++ beB 2 dt.length).length = X.length + out.length + 10 := (by rw [List.length_append, hl4, beB_len]); obtain ⟨po1, po2, rfl, _, _, _⟩ := p2.sl; clear hE53 hS53 hK53 hP10 hE10 hS10 hK10; have hEq := Ext.refl w53)
  refine Seg.nil (At.then_ (Cd.seq (Cd.region (Seg.step rfl rfl (Yd.move rfl) (Seg.step rfl rfl (Yd.move rfl) (Seg.step rfl rfl (Yd.nilCheckP rfl) (Seg.step rfl rfl (Yd.fieldAddr rfl rfl) ?_)))))))
  refine Seg.step rfl rfl (Yd.load1 rfl rfl (p1.row _ _ rfl)) (Seg.step rfl rfl (Yd.move rfl) ?_)
  (refine Seg.appM (m := dt) rfl rfl rfl rfl rfl (p2.ext hEq) (Nat.le_trans hb (Nat.le_trans hS11 (Below.size hEq))) (by omega) (fun v64 w64 hO64 hg64 hX64 hS64 => ?_); have hB12 := WrAt.mid p1 (p2.ext hEq) pX2 hg64; have hE12 := hX64 a0 (Ext.trans hE11 hEq) hab; have hS12 := Nat.le_trans (Nat.le_trans hS11 (Below.size hEq)) hS64; have hO12 := hO64; have hg12 := hg64; have h112 := p1; have h212 := p2.ext hEq; have h312 := p3; have hK12 := hK11.trans (KeepB.of (p := p) hEq); clear hX64 hO64 hg64 hEq p1 p3)
  refine Seg.step rfl rfl (Yd.nilCheckP rfl) (Seg.step rfl rfl (Yd.fieldAddr rfl rfl) ?_)
  (refine Seg.store1 (k := 0) rfl rfl rfl rfl hO12.one hB12 (by show 0 < 2; omega) (fun w67 hW67 hB67 => ?_); have hP13 : WrV w67 p base (X ++ out ++ beB 2 r.ty.toNat ++ beB 2 r.cl.toNat ++ beB 4 r.ttl.toNat ++ beB 2 dt.length ++ dt) po bm m2 F2 := WrV.put h112 h212 h312 pX2 pbm2 (fun h => pX2 (List.append_eq_nil_iff.1 h).1) hO12 hg12 hW67 hB67; have hE13 := Ext.wr' hE12 hW67 hp; have hS13 := Nat.le_trans hS12 hW67.size; have hK13 := hK12.trans (KeepB.own h212 pX2 hg12 hW67))
  refine Seg.nil (At.then_ (Cd.seq (Cd.region (Seg.step rfl rfl (Yd.move rfl) (Seg.step rfl rfl (Yd.assign rfl) (Seg.nil (At.then_ ?_)))))))
  refine Cd.ret ?_
  exact At.ret Tryz.results21 (.tmp rfl .nil) ⟨e, rfl, _, F2, m2, ⟨hP13, hF2, ⟨_, by rw [List.append_assoc, List.append_assoc, List.append_assoc, List.append_assoc, List.append_assoc]⟩, by rw [List.length_append, hl5]; omega, hE13, hS13, hK13, by omega⟩, fun he hlen hT => rec_rd hok hPO (hPD he).2 (by rw [List.length_append, hl5] at hlen; omega) hT⟩
end Go.Proofs.YtahpiaaffeiadaaGreat
