/- Records read: message.reader.record, records. Records read, one behind the other: message.reader.records. -/
import Derived.Test.YtahpiaaffeiadaaGreatZgg
namespace Go.Proofs.YtahpiaaffeiadaaGreat
open Go Go.RowKit
def setV (r : Rec) (a b c : Value) : Rec := { r with vn := a, vt := b, vm := c }
/-- The names of a record lie in rows of one's own. -/
def RecOwn (w : World) (base : Nat) (r : Rec) : Prop := OwnS w base r.vn r.nm ∧ OwnS w base r.vt r.tg ∧ OwnS w base r.vm r.ml
theorem dat_set (r : Rec) (a b c : Value) : ((((dat r b c).cells.set 0 a).set 1 (.int .i64 r.ty)).set 2 (.int .i64 r.cl)).set 3 (.int .i64 r.ttl) = (setV r a b c).cells := rfl
theorem mrecord_any (s : List UInt8) (p at' b : Nat) (r : Rec) (w : World) (hB : Bx w p [.string ⟨s.toArray⟩, .int .i64 (at' : Int)]) (h : RecRd s at' r b) (hl : s.length ≤ 65535) :
    Ret Tryz.prog 55 #[.pointer (some ⟨p, 0, none⟩)] w fun v w' => (∃ x y z, v = .agg (setV r x y z).cells.toArray ∧ RecOwn w' w.heap.size (setV r x y z)) ∧ Wr p w w' ∧ Bx w' p [.string ⟨s.toArray⟩, .int .i64 ((b : Nat) : Int)] := by
  have hE0 := Ext.refl w
  have hlt := hB.lt
  obtain ⟨f, e, hR, ⟨he, hbs⟩, ⟨h3, h4, h5, h6⟩, hD, hok⟩ := h
  have hz : szN r.nm ≤ 255 := (chk_ok hok.1).2
  have hdo : DatOk r := hok.2.2.2.2
  obtain ⟨m, hm⟩ : ∃ m, m = b - (e + 10) := ⟨_, rfl⟩
  have hbm : b = e + 10 + m := by omega
  subst hbm
  rw [← hm] at h6
  refine Ret.body Tryz.func55 rfl Tryz.ntmps55 rfl (Cd.seq (Cd.region (Seg.alloc rfl rfl rfl (fun w9 b9 hE9 hB9 hb9 => ?_))))
  have hlt9_0 := Nat.lt_of_lt_of_le hB.lt hb9
  have hlt9_1 := Nat.le_trans hE0.size hb9
  replace hB := hB.ext hE9
  replace hE0 := Ext.trans hE0 hE9
  refine Seg.nil (At.then_ (Cd.seq (Cd.region (Seg.step rfl rfl (Yd.move rfl) ?_))))
  (have hEw : Keep (Ext w _) := (by assumption); have hb9l := hB9.lt; have hpl := hB.lt; have hb9p : b9 ≠ p := (by omega); refine Seg.call rfl rfl (own_of rfl) rfl (mname_any s p f at' e r.nm _ (by assumption) hR hl hz) ?_; rintro nv wn ⟨hO15, hW15, hB15⟩; obtain ⟨na, nc, rfl, _, _, _⟩ := own_sl hO15; have kO : Keep (OwnS wn _ _ r.nm) := hO15; have kW0 : Keep (Wr p w9 wn) := hW15; replace hB9 := hB9.wr hW15 hb9p; have kW1 : Keep (Wr p wn wn) := Ext.wr (Ext.refl wn) p; clear hO15 hW15)
  refine Seg.step rfl rfl (Yd.assign rfl) (Seg.nil (At.then_ (Cd.seq (Cd.region (Seg.step rfl rfl (Yd.move rfl) ?_)))))
  (refine Seg.call rfl rfl (own_of rfl) rfl (mnum_any s p e 2 _ (by assumption) (by omega) (by omega) (by decide)) ?_; rw [← h3]; rintro _ w22 ⟨rfl, hW22, hB22⟩; have kW2 : Keep (Wr p wn w22) := Wr.trans kW1 hW22; replace hB9 := hB9.wr hW22 hb9p; clear hW22)
  refine Seg.step rfl rfl (Yd.move rfl) ?_
  (refine Seg.call rfl rfl (own_of rfl) rfl (mnum_any s p (e + 2) 2 _ (by assumption) (by omega) (by omega) (by decide)) ?_; rw [← h4]; rintro _ w24 ⟨rfl, hW24, hB24⟩; have kW3 : Keep (Wr p wn w24) := Wr.trans kW2 hW24; replace hB9 := hB9.wr hW24 hb9p; clear hW24)
  refine Seg.step rfl rfl (Yd.move rfl) ?_
  (refine Seg.call rfl rfl (own_of rfl) rfl (mnum_any s p (e + 4) 4 _ (by assumption) (by omega) (by omega) (by decide)) ?_; rw [← h5]; rintro _ w26 ⟨rfl, hW26, hB26⟩; have kW4 : Keep (Wr p wn w26) := Wr.trans kW3 hW26; replace hB9 := hB9.wr hW26 hb9p; clear hW26)
  refine Seg.step rfl rfl (Yd.assign rfl) (Seg.step rfl rfl (Yd.assign rfl) (Seg.step rfl rfl (Yd.assign rfl) (Seg.nil (At.then_ (Cd.seq (Cd.region (Seg.step rfl rfl (Yd.move rfl) ?_)))))))
  (refine Seg.call rfl rfl (own_of rfl) rfl (mnum_any s p (e + 8) 2 _ (by assumption) (by omega) (by omega) (by decide)) ?_; rw [← h6]; rintro _ w35 ⟨rfl, hW35, hB35⟩; have kW5 : Keep (Wr p wn w35) := Wr.trans kW4 hW35; replace hB9 := hB9.wr hW35 hb9p; clear hW35)
  refine Seg.step rfl rfl (Yd.assign rfl) (Seg.nil (At.then_ (Cd.seq (Cd.region (Seg.step rfl rfl (Yd.move rfl) (Seg.step rfl rfl (Yd.nilCheckP rfl) (Seg.step rfl rfl (Yd.fieldAddr rfl rfl) ?_)))))))
  refine Seg.step rfl rfl (Yd.load1 rfl rfl (hB35.row _ _ rfl)) (Seg.step rfl rfl (Yd.assign rfl) (Seg.nil (At.then_ (Cd.seq (Cd.region (Seg.step rfl rfl (Yd.move rfl) (Seg.step rfl rfl (Yd.move rfl) ?_)))))))
  (refine Seg.call rfl rfl (own_of rfl) rfl (mtake_any s p (e + 10) m _ (by assumption) hbs (by omega)) ?_; rintro _ wt ⟨rfl, hW52, hB52⟩; have kW6 : Keep (Wr p wn wt) := Wr.trans kW5 hW52; replace hB9 := hB9.wr hW52 hb9p; have hEn := Ext.refl wt; have hb9m := hB9.lt; have hpm := hB52.lt; have hszt : w.heap.size ≤ wt.heap.size := Nat.le_trans (Below.size hEw) (Nat.le_trans (show Wr p w9 wn from kW0).size (show Wr p wn wt from kW6).size); clear hW52)
  refine Seg.nil (At.then_ (Cd.seq (Cd.region (Seg.step rfl rfl (Yd.move rfl) (Seg.step rfl rfl (Yd.nilCheckP rfl) (Seg.step rfl rfl (Yd.fieldAddr rfl rfl) (Seg.step rfl rfl (Yd.load1 rfl rfl (hB52.row _ _ rfl)) ?_)))))))
  refine Seg.step rfl rfl (Yd.move rfl) (Seg.step rfl rfl (Yd.move rfl) (Seg.step rfl rfl (Yd.move rfl) (Seg.step rfl rfl (Yd.move rfl) ?_)))
  (refine Seg.call rfl rfl (own_of rfl) rfl (rget_any r s (e + 10) m _ hbs hl hD hdo) ?_; rintro _ w65 ⟨⟨ut, um, rfl, hU65, hV65⟩, hE65⟩; obtain ⟨ta, tc, rfl, _, _, _⟩ := own_sl hU65; obtain ⟨ma, mc, rfl, _, _, _⟩ := own_sl hV65; have kU : Keep (OwnS w65 _ _ r.tg) := hU65; have kV : Keep (OwnS w65 _ _ r.ml) := hV65; have hEq := Ext.refl w65; clear hU65 hV65)
  replace hB52 := hB52.ext hE65
  replace hB9 := hB9.ext hE65
  replace hEn := Ext.trans hEn hE65
  refine Seg.step rfl rfl (Yd.move rfl) (Seg.step rfl rfl (Yd.extract rfl rfl) (Seg.step rfl rfl (Yd.extract rfl rfl) (Seg.alloc rfl rfl rfl (fun w69 b69 hE69 hB69 hb69 => ?_))))
  have hlt69_0 := Nat.le_trans hE65.size hb69
  have hlt69_1 := Nat.le_trans hEq.size hb69
  have hlt69_2 := Nat.lt_of_lt_of_le hB52.lt hb69
  have hlt69_3 := Nat.lt_of_lt_of_le hB9.lt hb69
  have hlt69_4 := Nat.le_trans hEn.size hb69
  replace hE65 := Ext.trans hE65 hE69
  replace hEq := Ext.trans hEq hE69
  replace hB52 := hB52.ext hE69
  replace hB9 := hB9.ext hE69
  replace hEn := Ext.trans hEn hE69
  refine Seg.storeN rfl rfl rfl rfl hB69 rfl (by first | assumption | exact List.all_eq_true.1 rfl) (fun w70 hW70 hB70 => ?_)
  clear hB69
  replace hE69 := Ext.wr' hE69 hW70 (by omega)
  replace hE65 := Ext.wr' hE65 hW70 (by omega)
  replace hEq := Ext.wr' hEq hW70 (by omega)
  replace hB52 := hB52.wr hW70 (by omega)
  replace hB9 := hB9.wr hW70 (by omega)
  replace hEn := Ext.wr' hEn hW70 (by omega)
  refine Seg.step rfl rfl (Yd.assign rfl) (Seg.nil (At.then_ (Cd.seq (Cd.region (Seg.step rfl rfl (Yd.move rfl) ?_)))))
  (refine Seg.call rfl rfl (own_of rfl) rfl (mcheck0_any _) ?_; rintro _ w77 hE77)
  replace hW70 := Wr.trans hW70 (Ext.wr hE77 _)
  replace hB70 := hB70.ext hE77
  replace hE69 := Ext.trans hE69 hE77
  replace hE65 := Ext.trans hE65 hE77
  replace hEq := Ext.trans hEq hE77
  replace hB52 := hB52.ext hE77
  replace hB9 := hB9.ext hE77
  replace hEn := Ext.trans hEn hE77
  refine Seg.nil (At.then_ (Cd.seq (Cd.region (Seg.step rfl rfl (Yd.move rfl) (Seg.step rfl rfl (Yd.move rfl) (Seg.step rfl rfl (Yd.move rfl) (Seg.step rfl rfl (Yd.move rfl) ?_)))))))
  refine Seg.step rfl rfl (Yd.fieldAddr rfl rfl) ?_
  refine Seg.store1 rfl rfl rfl rfl rfl hB70 (by first | omega | (simp; done) | exact Nat.le_of_ble_eq_true rfl) (fun w87 hW87 hB87 => ?_)
  clear hB70
  replace hW70 := Wr.trans hW70 hW87
  replace hE69 := Ext.wr' hE69 hW87 (by omega)
  replace hE65 := Ext.wr' hE65 hW87 (by omega)
  replace hEq := Ext.wr' hEq hW87 (by omega)
  replace hB52 := hB52.wr hW87 (by omega)
  replace hB9 := hB9.wr hW87 (by omega)
  replace hEn := Ext.wr' hEn hW87 (by omega)
  refine Seg.step rfl rfl (Yd.fieldAddr rfl rfl) ?_
  refine Seg.store1 rfl rfl rfl rfl rfl hB87 (by first | omega | (simp; done) | exact Nat.le_of_ble_eq_true rfl) (fun w89 hW89 hB89 => ?_)
  clear hB87
  replace hW87 := Wr.trans hW87 hW89
  replace hW70 := Wr.trans hW70 hW89
  replace hE69 := Ext.wr' hE69 hW89 (by omega)
  replace hE65 := Ext.wr' hE65 hW89 (by omega)
  replace hEq := Ext.wr' hEq hW89 (by omega)
  replace hB52 := hB52.wr hW89 (by omega)
  replace hB9 := hB9.wr hW89 (by omega)
  replace hEn := Ext.wr' hEn hW89 (by omega)
  refine Seg.step rfl rfl (Yd.fieldAddr rfl rfl) ?_
  refine Seg.store1 rfl rfl rfl rfl rfl hB89 (by first | omega | (simp; done) | exact Nat.le_of_ble_eq_true rfl) (fun w91 hW91 hB91 => ?_)
  clear hB89
  replace hW89 := Wr.trans hW89 hW91
  replace hW87 := Wr.trans hW87 hW91
  replace hW70 := Wr.trans hW70 hW91
  replace hE69 := Ext.wr' hE69 hW91 (by omega)
  replace hE65 := Ext.wr' hE65 hW91 (by omega)
  replace hEq := Ext.wr' hEq hW91 (by omega)
  replace hB52 := hB52.wr hW91 (by omega)
  replace hB9 := hB9.wr hW91 (by omega)
  replace hEn := Ext.wr' hEn hW91 (by omega)
  refine Seg.step rfl rfl (Yd.fieldAddr rfl rfl) ?_
  refine Seg.store1 rfl rfl rfl rfl rfl hB91 (by first | omega | (simp; done) | exact Nat.le_of_ble_eq_true rfl) (fun w93 hW93 hB93 => ?_)
  clear hB91
  replace hW91 := Wr.trans hW91 hW93
  replace hW89 := Wr.trans hW89 hW93
  replace hW87 := Wr.trans hW87 hW93
  replace hW70 := Wr.trans hW70 hW93
  replace hE69 := Ext.wr' hE69 hW93 (by omega)
  replace hE65 := Ext.wr' hE65 hW93 (by omega)
  replace hEq := Ext.wr' hEq hW93 (by omega)
  replace hB52 := hB52.wr hW93 (by omega)
  replace hB9 := hB9.wr hW93 (by omega)
  replace hEn := Ext.wr' hEn hW93 (by omega)
  refine Seg.nil (At.then_ (Cd.seq (Cd.region (Seg.step rfl rfl (Yd.loadN rfl rfl rfl hB93.row) (Seg.storeN rfl rfl rfl rfl hB9 rfl (by first | assumption | exact List.all_eq_true.1 rfl) (fun w99 hW99 hB99 => ?_))))))
  clear hB9
  replace hB93 := hB93.wr hW99 (by omega)
  replace hB52 := hB52.wr hW99 (by omega)
  refine Seg.nil (At.then_ (Cd.ret ?_))
  exact At.ret Tryz.results55 (.cell rfl (run_loadVarN rfl rfl (show Bx _ b9 (setV r (.slice na r.nm.length nc) (.slice ta r.tg.length tc) (.slice ma r.ml.length mc)).cells by assumption).row) .nil) ⟨⟨_, _, _, rfl, own_down (own_wr (own_ext (own_wr kO kW6 (own_noblk kO hpl)) hEn) (show Wr b9 _ _ by assumption) (own_noblk kO hb9l)) (Below.size hEw), own_down (own_wr (own_ext kU hEq) (show Wr b9 _ _ by assumption) (own_noblk kU hb9m)) hszt, own_down (own_wr (own_ext kV hEq) (show Wr b9 _ _ by assumption) (own_noblk kV hb9m)) hszt⟩, Wr.far (Wr.trans (Wr.trans (Wr.trans (Ext.wr hEw p) kW0) kW6) (Ext.wr hEn p)) (show Wr b9 _ _ by assumption) hb9, by assumption⟩
end Go.Proofs.YtahpiaaffeiadaaGreat
namespace Go.Proofs.YtahpiaaffeiadaaGreat
open Go Go.RowKit
theorem RecOwn.ext {w w' : World} {base : Nat} {r : Rec} (h : RecOwn w base r) (hE : Ext w w') : RecOwn w' base r := ⟨own_ext h.1 hE, own_ext h.2.1 hE, own_ext h.2.2 hE⟩
theorem RecOwn.wr {w w' : World} {base b : Nat} {r : Rec} (h : RecOwn w base r) (hW : Wr b w w') (hb : b < base) : RecOwn w' base r := ⟨own_wr h.1 hW (own_noblk h.1 hb), own_wr h.2.1 hW (own_noblk h.2.1 hb), own_wr h.2.2 hW (own_noblk h.2.2 hb)⟩
theorem RecOwn.down {w : World} {base base' : Nat} {r : Rec} (h : RecOwn w base r) (hb : base' ≤ base) : RecOwn w base' r := ⟨own_down h.1 hb, own_down h.2.1 hb, own_down h.2.2 hb⟩
theorem RecOwn.kept {w w' : World} {base base' e k m : Nat} {v : Value} {cs : List Value} {r : Rec} (h : RecOwn w base r) (ho : w.ownsRow base' e k v m cs) (hne : e ≠ 9) (hg : w.grownBy w' v.ownBlock) : RecOwn w' base r :=
  ⟨own_keep ho h.1 hne hg, own_keep ho h.2.1 hne hg, own_keep ho h.2.2 hne hg⟩
theorem RecOwn.at' {w : World} {base : Nat} {r : Rec} (h : RecOwn w base r) : RecAt w r := ⟨own_sl h.1, own_sl h.2.1, own_sl h.2.2⟩
theorem Wr.own {p base e k m : Nat} {a w w' : World} {v : Value} {cs : List Value} (h : Wr p a w) (ho : w.ownsRow base e k v m cs) (hb : a.heap.size ≤ base) (hg : w.grownBy w' v.ownBlock) : Wr p a w' :=
  ⟨hg.os.trans h.os, hg.tape.trans h.tape, hg.output.trans h.output, Nat.le_trans h.size hg.size, fun i hi hne => (hg.block i (Nat.lt_of_lt_of_le hi h.size) (fun e => own_noblk ho (Nat.lt_of_lt_of_le hi hb) e.symm)).trans (h.block i hi hne)⟩
/-- Records' cells in a row of one's own. -/
abbrev OwnR33 (w : World) (base : Nat) (v : Value) (m : Nat) (cs : List Value) : Prop := w.ownsRow base 57 33 v m cs
/-- Records of one's own. -/
def RecsOwn (w : World) (base : Nat) (v : Value) (rs : List Rec) : Prop := OwnR33 w base v rs.length (recsV rs) ∧ ∀ r ∈ rs, RecOwn w base r
theorem RecsOwn.ext {w w' : World} {base : Nat} {v : Value} {rs : List Rec} (h : RecsOwn w base v rs) (hE : Ext w w') : RecsOwn w' base v rs := ⟨own_ext h.1 hE, fun r hr => (h.2 r hr).ext hE⟩
theorem RecsOwn.wr {w w' : World} {base b : Nat} {v : Value} {rs : List Rec} (h : RecsOwn w base v rs) (hW : Wr b w w') (hb : b < base) : RecsOwn w' base v rs := ⟨own_wr h.1 hW (own_noblk h.1 hb), fun r hr => (h.2 r hr).wr hW hb⟩
theorem RecsOwn.down {w : World} {base base' : Nat} {v : Value} {rs : List Rec} (h : RecsOwn w base v rs) (hb : base' ≤ base) : RecsOwn w base' v rs := ⟨own_down h.1 hb, fun r hr => (h.2 r hr).down hb⟩
theorem RecsOwn.at' {w : World} {base : Nat} {v : Value} {rs : List Rec} (h : RecsOwn w base v rs) : RecsAt w v rs := ⟨own_sl h.1, fun r hr => (h.2 r hr).at'⟩
theorem RecsOwn.nil (w : World) (base : Nat) : RecsOwn w base (.slice none 0 0) [] := ⟨World.ownsRow_nil _ _ _ _, fun r hr => by cases hr⟩
structure RcS where
  done : List Rec
  rest : List Rec
  at' : Nat
  v : Value
set_option maxHeartbeats 400000 in
theorem mrecs_any (s : List UInt8) (p at' b : Nat) (rs : List Rec) (w : World) (hB : Bx w p [.string ⟨s.toArray⟩, .int .i64 (at' : Int)]) (h : RsRd s at' rs b) (hl : s.length ≤ 65535) (hn : rs.length ≤ 65535) :
    Ret Tryz.prog 32 #[.pointer (some ⟨p, 0, none⟩), .int .i64 (rs.length : Nat)] w fun v w' => (∃ rs', RecsOwn w' w.heap.size v rs' ∧ keys rs' = keys rs) ∧ Wr p w w' ∧ Bx w' p [.string ⟨s.toArray⟩, .int .i64 ((b : Nat) : Int)] := by
  have hE0 := Ext.refl w
  have hlt := hB.lt
  refine Ret.body Tryz.func32 rfl Tryz.ntmps32 rfl (Cd.seq (Cd.region (Seg.step rfl rfl (Yd.assign rfl) (Seg.nil (At.then_ (Cd.seq (Cd.region ?_)))))))
  refine Seg.step rfl rfl (Yd.assign rfl) (Seg.nil (At.then_ (Cd.seq (Cd.seq (Cd.region (Seg.step rfl rfl (Yd.move rfl) (Seg.step rfl rfl (Yd.move rfl) ?_)))))))
  refine Seg.nil (At.then_ (Cd.block ?_))
  refine Cd.loop (σ := RcS) (fun t => [(0, .pointer (some ⟨p, 0, none⟩)), (5, t.v), (6, .int .i64 (rs.length : Nat)), (7, .int .i64 (t.done.length : Nat))])
    (fun t w' => (keys t.done ++ keys t.rest = keys rs ∧ RsRd s t.at' t.rest b) ∧ Keep (RecsOwn w' w.heap.size t.v t.done) ∧ Bx w' p [.string ⟨s.toArray⟩, .int .i64 (t.at' : Nat)] ∧ Wr p w w') (fun t => t.rest.length) ⟨[], rs, at', .slice none 0 0⟩ (.cons rfl (.cons rfl (.cons rfl (.cons rfl (.nil _)))))
    ⟨⟨rfl, h⟩, RecsOwn.nil _ _, by assumption, Ext.wr (by assumption) p⟩ ?_
  clear hB hE0
  rintro ⟨done, rest, at1, v⟩ w1 ⟨⟨hdr, hrd⟩, kO, hB, hW⟩
  simp only at hdr hrd kO hB ⊢
  have hkl : done.length + rest.length = rs.length := by have := congrArg List.length hdr; simpa [keys] using this
  have kW : Keep (Wr p w w1) := hW
  have hs1 := hW.size
  clear hW
  have hEn := Ext.refl w1
  obtain ⟨va, vc, rfl⟩ := own_shape (show RecsOwn w1 w.heap.size v done from kO).1
  cases rest with
  | nil =>
    have hat : at1 = b := hrd
    have hdk : keys done = keys rs := by rw [← hdr]; exact (List.append_nil _).symm
    subst hat
    have hdl : done.length = rs.length := by simpa using hkl
    refine Cd.seq (Cd.region (Seg.step rfl rfl (Yd.lss rfl rfl) (Seg.nil (At.then_ (Cd.seq ?_)))))
    refine Cd.condk rfl (fun h8 => ?_) (fun h8 => ?_)
    · exfalso; omega
    · refine Cd.exit (At.then_exit (At.then_exit (At.blk_same (At.then_ (Cd.seq (Cd.region (Seg.step rfl rfl (Yd.move rfl) ?_)))))))
      refine Seg.step rfl rfl (Yd.assign rfl) (Seg.nil (At.then_ (Cd.ret ?_)))
      exact At.ret Tryz.results32 (.tmp rfl .nil) ⟨⟨done, RecsOwn.ext kO hEn, hdk⟩, Wr.trans kW (Ext.wr hEn p), by assumption⟩
  | cons r rest =>
    obtain ⟨e, hrr, hrd⟩ := hrd
    have hdl : (done.length : Int) < (rs.length : Int) := by rw [← hkl]; simp only [List.length_cons]; omega
    have hdn : done.length + 1 ≤ rs.length := by rw [← hkl]; simp only [List.length_cons]; omega
    refine Cd.seq (Cd.region (Seg.step rfl rfl (Yd.lss rfl rfl) (Seg.nil (At.then_ (Cd.seq ?_)))))
    refine Cd.condk rfl (fun h8 => ?_) (fun h8 => ?_)
    rotate_left 1
    · exfalso; omega
    rotate_right 1
    refine Cd.skip (At.then_ (Cd.seq (Cd.block (Cd.region (Seg.step rfl rfl (Yd.move rfl) (Seg.step rfl rfl (Yd.move rfl) ?_))))))
    (refine Seg.call rfl rfl (own_of rfl) rfl (mrecord_any s p at1 e r _ (by assumption) hrr hl) ?_; rintro _ w3 ⟨⟨x, y, z, rfl, hR3⟩, hW3, hB3⟩; have kO3 : Keep (RecsOwn w3 w.heap.size _ done) := RecsOwn.wr (RecsOwn.ext kO hEn) hW3 hlt; have kW3 : Keep (Wr p w w3) := Wr.trans (Wr.trans kW (Ext.wr hEn p)) hW3; have kR3 : Keep (RecOwn w3 w.heap.size _) := hR3.down (Nat.le_trans hs1 (Below.size hEn)); have hs3 : w.heap.size ≤ w3.heap.size := Nat.le_trans (Nat.le_trans hs1 (Below.size hEn)) hW3.size; obtain ⟨xa, xc, rfl⟩ := own_shape (show OwnS w3 _ x r.nm from hR3.1); obtain ⟨ya, yc, rfl⟩ := own_shape (show OwnS w3 _ y r.tg from hR3.2.1); obtain ⟨za, zc, rfl⟩ := own_shape (show OwnS w3 _ z r.ml from hR3.2.2); have hE3 := Ext.refl w3; clear hR3 hW3 hEn)
    refine Seg.buildSliceV rfl rfl rfl rfl rfl rfl rfl rfl rfl rfl (fun w18 b18 hE18 hB18 hb18 hO18 => ?_)
    have hlt18_0 := Nat.lt_of_lt_of_le hB3.lt hb18
    have hlt18_1 := Nat.le_trans hE3.size hb18
    replace hB3 := hB3.ext hE18
    replace hE3 := Ext.trans hE3 hE18
    have kO4 : RecsOwn w18 w.heap.size (.slice va done.length vc) done := RecsOwn.ext kO3 hE3
    have kR4 : RecOwn w18 w.heap.size (setV r (.slice xa r.nm.length xc) (.slice ya r.tg.length yc) (.slice za r.ml.length zc)) := RecOwn.ext kR3 hE3
    refine Seg.append (s := 32) (m := done.length) (m' := 1) rfl rfl rfl rfl rfl rfl rfl rfl rfl kO4.1 (own_sl hO18) (List.all_eq_true.1 rfl) (Nat.le_trans hs3 (Below.size hE3)) (by omega) rfl (fun v5 w5 hO5 hG5 _ => ?_)
    have hcs : recsV done ++ List.flatMap zcells [Value.agg ((setV r (.slice xa r.nm.length xc) (.slice ya r.tg.length yc) (.slice za r.ml.length zc))).cells.toArray] = recsV (done ++ [(setV r (.slice xa r.nm.length xc) (.slice ya r.tg.length yc) (.slice za r.ml.length zc))]) := by rw [recsV_append]; rfl
    have hdl1 : (done ++ [(setV r (.slice xa r.nm.length xc) (.slice ya r.tg.length yc) (.slice za r.ml.length zc))]).length = done.length + 1 := by simp
    rw [hcs, ← hdl1] at hO5
    have hb4 : Bx w18 p [.string ⟨s.toArray⟩, .int .i64 (e : Nat)] := by assumption
    have hB5 := hb4.grown hG5 (Ne.symm (own_noblk kO4.1 hlt))
    have kW5 : Keep (Wr p w w5) := Wr.own (Wr.trans kW3 (Ext.wr hE3 p)) kO4.1 (Nat.le_refl _) hG5
    have kO5 : Keep (RecsOwn w5 w.heap.size v5 (done ++ [(setV r (.slice xa r.nm.length xc) (.slice ya r.tg.length yc) (.slice za r.ml.length zc))])) := ⟨hO5, fun x hx => by
      rcases List.mem_append.1 hx with hx | hx
      · exact (kO4.2 x hx).kept kO4.1 (by decide) hG5
      · rw [List.mem_singleton] at hx; rw [hx]; exact kR4.kept kO4.1 (by decide) hG5⟩
    have hdr2 : keys (done ++ [(setV r (.slice xa r.nm.length xc) (.slice ya r.tg.length yc) (.slice za r.ml.length zc))]) ++ keys rest = keys rs := by rw [← hdr]; simp only [keys, List.map_append, List.append_assoc]; rfl
    have hE5 := Ext.refl w5
    clear hB3 hb4 hB18 hO18 hE3 hO5 hG5 kO4 kR4 hcs hB
    refine Seg.step rfl rfl (Yd.assign rfl) (Seg.nil (At.blk (At.then_ (Cd.region (Seg.step rfl rfl (Yd.addI rfl rfl (by omega)) (Seg.step rfl rfl (Yd.move rfl) (Seg.nil ?_)))))))
    exact At.round (⟨done ++ [(setV r (.slice xa r.nm.length xc) (.slice ya r.tg.length yc) (.slice za r.ml.length zc))], rest, e, v5⟩ : RcS) (by rw [hdl1]; exact (.cons rfl (.cons rfl (.cons rfl (.cons rfl (.nil _)))))) ⟨⟨hdr2, hrd⟩, RecsOwn.ext kO5 hE5, by assumption, Wr.trans kW5 (Ext.wr hE5 p)⟩ (Nat.lt_succ_self _)
end Go.Proofs.YtahpiaaffeiadaaGreat
