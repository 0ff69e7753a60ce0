/- Whole messages written: message.Encode. -/
import Derived.Test.YtahpiaaffeiadaaGreatZmc
namespace Go.Proofs.YtahpiaaffeiadaaGreat
open Go Go.RowKit
/-- A cut behind a piece of code that branches. -/
theorem Cd.cutw {P : Program} {n : Fm} {Q : Exit → Act → World → Prop} {fr : Fr} {w : World} {σ : Type} (F : σ → Fr) (R : σ → World → Prop) {c x y : Code}
    (hx : Cd P n (Exit.then (c.wp P (Exit.then (fun a' w' => ∃ s, Fr.Of (F s) n a' ∧ R s w') Q)) (Exit.then (fun a' w' => ∃ s, Fr.Of (F s) n a' ∧ R s w') Q)) x fr w) (hy : ∀ s w', R s w' → Cd P n Q y (F s) w') :
    Cd P n (Exit.then (c.wp P (Exit.then (y.wp P Q) Q)) (Exit.then (y.wp P Q) Q)) x fr w := .mk fun a ha =>
  Code.wp_mono (fun e a' w' q => by
    cases e <;> first | exact q | exact Code.wp_mono (fun e a' w' q => by
      cases e <;> first | exact q | (obtain ⟨s, h1, h2⟩ := q; exact (hy s w' h2).out a' h1)) q) (hx.out a ha)
/-- Records can be read, one behind the other. -/
def RsRd (s : List UInt8) : Nat → List Rec → Nat → Prop
  | a, [], b => a = b
  | a, r :: l, b => ∃ e, RecRd s a r e ∧ RsRd s e l b
theorem RsRd.more {s : List UInt8} (Y : List UInt8) : ∀ {l : List Rec} {a b : Nat}, RsRd s a l b → RsRd (s ++ Y) a l b
  | [], _, _, h => h
  | _ :: _, _, _, ⟨e, h1, h2⟩ => ⟨e, h1.more Y, h2.more Y⟩
theorem RsRd.snoc {s : List UInt8} : ∀ {l : List Rec} {a b e : Nat} {r : Rec}, RsRd s a l b → RecRd s b r e → RsRd s a (l ++ [r]) e
  | [], a, b, e, r, h, h1 => by have h : a = b := h; subst h; exact ⟨e, h1, rfl⟩
  | _ :: _, _, _, _, _, ⟨e, h1, h2⟩, h3 => ⟨e, h1, h2.snoc h3⟩
/-- Lists of records can be read, one behind the other. -/
def LsRd (s : List UInt8) : Nat → List (Value × List Rec) → Nat → Prop
  | a, [], b => a = b
  | a, x :: l, b => ∃ e, RsRd s a x.2 e ∧ LsRd s e l b
theorem LsRd.more {s : List UInt8} (Y : List UInt8) : ∀ {l : List (Value × List Rec)} {a b : Nat}, LsRd s a l b → LsRd (s ++ Y) a l b
  | [], _, _, h => h
  | _ :: _, _, _, ⟨e, h1, h2⟩ => ⟨e, h1.more Y, h2.more Y⟩
theorem LsRd.snoc {s : List UInt8} : ∀ {l : List (Value × List Rec)} {a b e : Nat} {x : Value × List Rec}, LsRd s a l b → RsRd s b x.2 e → LsRd s a (l ++ [x]) e
  | [], a, b, e, r, h, h1 => by have h : a = b := h; subst h; exact ⟨e, h1, rfl⟩
  | _ :: _, _, _, _, _, ⟨e, h1, h2⟩, h3 => ⟨e, h1, h2.snoc h3⟩
def Qm.toD (q : Qm) : DQ := ⟨q.n, q.kind.toNat, q.cls.toNat⟩
/-- S is what a message is written as. -/
def MgRd (M : Mg) (S : List UInt8) : Prop :=
  MgOk M ∧ (12 ≤ S.length ∧ S.length ≤ 65535) ∧ (∃ Y, S = hdB M.h [M.qs.length, M.an.length, M.au.length, M.ex.length] ++ Y) ∧ ∃ b, QsRd S 12 (M.qs.map Qm.toD) b ∧ LsRd S b M.ls S.length
/-- How far the writing has come. -/
structure EnAt (w0 : World) (M : Mg) (p base : Nat) (po : Option Addr) (bm m : Nat) (X : List UInt8) (F : List UInt8 → Option Nat) (w : World) : Prop where
  at' : WrV w p base X po bm m F
  ok : okF F
  ext : Ext w0 w
  le : w0.heap.size ≤ bm ∧ bm < w.heap.size ∧ base ≤ w.heap.size
  pre : ∃ Y, X = hdB M.h [M.qs.length, M.an.length, M.au.length, M.ex.length] ++ Y
  len : 12 ≤ X.length ∧ X.length ≤ 65535
  tab : TabRd X F
theorem EnAt.step {w0 w1 w2 : World} {M : Mg} {p base bm m m' : Nat} {po : Option Addr} {X X' : List UInt8} {F F' : List UInt8 → Option Nat} (h : EnAt w0 M p base po bm m X F w1) (hD : WDone w0 p base bm m X po F w1 w2 X' F' m') (hl : X'.length ≤ 65535) (hT : TabRd X' F') : EnAt w0 M p base po bm m' X' F' w2 where
  at' := hD.at'
  ok := hD.ok
  ext := hD.ext
  le := ⟨h.le.1, Nat.lt_of_lt_of_le h.le.2.1 hD.size, Nat.le_trans h.le.2.2 hD.size⟩
  pre := by
    obtain ⟨Y, hY⟩ := hD.pre
    obtain ⟨Z, hZ⟩ := h.pre
    exact ⟨Z ++ Y, by rw [hY, hZ, List.append_assoc]⟩
  len := by
    obtain ⟨Y, hY⟩ := hD.pre
    have := h.len.1
    have e : X'.length = X.length + Y.length := by rw [hY, List.length_append]
    exact ⟨by omega, hl⟩
  tab := hT
theorem EnAt.more {w0 w1 w2 : World} {M : Mg} {p base bm m : Nat} {po : Option Addr} {X : List UInt8} {F : List UInt8 → Option Nat} (h : EnAt w0 M p base po bm m X F w1) (hE : Ext w1 w2) : EnAt w0 M p base po bm m X F w2 where
  at' := h.at'.ext hE
  ok := h.ok
  ext := h.ext.trans hE
  le := ⟨h.le.1, Nat.lt_of_lt_of_le h.le.2.1 (Below.size hE), Nat.le_trans h.le.2.2 (Below.size hE)⟩
  pre := h.pre
  len := h.len
  tab := h.tab
theorem QsRd.cat {s : List UInt8} : ∀ {l k : List DQ} {a b e : Nat}, QsRd s a l b → QsRd s b k e → QsRd s a (l ++ k) e
  | [], _, a, b, e, h, g => by have h : a = b := h; subst h; exact g
  | q :: r, k, a, b, e, ⟨f', e', g1, g2, g3, g4, g5, g6⟩, g => ⟨f', e', g1, g2, g3, g4, g5, QsRd.cat g6 g⟩
theorem q_step {X X2 : List UInt8} {qs : List Qm} {i : Nat} {n : List (List UInt8)} {v : Value} {k c : Nat} (hq : qs[i]? = some ⟨n, v, (k : Int), (c : Int)⟩) (h : QsRd X 12 ((qs.take i).map Qm.toD) X.length) (hp : ∃ Y, X2 = X ++ Y) (h2 : QsRd X2 X.length [⟨n, k, c⟩] X2.length) : QsRd X2 12 ((qs.take (i + 1)).map Qm.toD) X2.length := by
  obtain ⟨Y, rfl⟩ := hp
  rw [take_snoc hq, List.map_append]
  exact QsRd.cat (h.more Y) h2
theorem r_step {X X2 : List UInt8} {D : List DQ} {L : List (Value × List Rec)} {l : List Rec} {i b b' : Nat} {r : Rec} (hr : l[i]? = some r) (h : QsRd X 12 D b) (hL : LsRd X b L b') (hR : RsRd X b' (l.take i) X.length) (hp : ∃ Y, X2 = X ++ Y) (h2 : RecRd X2 X.length r X2.length) : QsRd X2 12 D b ∧ LsRd X2 b L b' ∧ RsRd X2 b' (l.take (i + 1)) X2.length := by
  obtain ⟨Y, rfl⟩ := hp
  refine ⟨h.more Y, hL.more Y, ?_⟩
  rw [take_snoc hr]
  exact (hR.more Y).snoc h2
theorem m_step {K m m' j : Nat} (h : m ≤ K + 768 * j) (h2 : m' ≤ m + 768) : m' ≤ K + 768 * (j + 1) := Nat.le_trans h2 (by rw [Nat.mul_succ, ← Nat.add_assoc]; exact Nat.add_le_add_right h 768)
theorem m_q {m m' j : Nat} (h : m ≤ 768 * j) (h2 : m' ≤ m + 768) : m' ≤ 768 * (j + 1) := by omega
theorem m_end {m i n : Nat} (h : m ≤ 15360 + 23040 * i + 768 * n) (h2 : n ≤ 30) : m ≤ 15360 + 23040 * (i + 1) := by omega
theorem l_step {s : List UInt8} {l : List (Value × List Rec)} {i a b e : Nat} {x : Value × List Rec} (hx : l[i]? = some x) (hL : LsRd s a (l.take i) b) (hR : RsRd s b x.2 e) : LsRd s a (l.take (i + 1)) e := by rw [take_snoc hx]; exact hL.snoc hR
structure EnS where
  po : Option Addr
  bm : Nat
  m : Nat
  X : List UInt8
  F : List UInt8 → Option Nat
  i : Nat
  b : Nat
set_option maxHeartbeats 800000 in
theorem gencode_any (M : Mg) (pack : Bool) (w : World) (hM : MgAt w M) (hf : MgFit M) : Ret Tryz.prog 6 #[.agg M.cells.toArray, .bool pack] w fun v w' => (∃ e S, v = .tuple #[.string ⟨S.toArray⟩, .int .i64 e] ∧ (e = 0 → MgRd M S)) ∧ Ext w w' := by
  have hE0 := Ext.refl w
  obtain ⟨h, vq, qs, va, an, vu, au, ve, ex⟩ := M
  have hM1 := hM
  obtain ⟨⟨⟨ao, c, e0, hl0, hr0, hz0⟩, hnm⟩, hl⟩ := hM1
  obtain ⟨⟨la, c1, e1, _⟩, _⟩ := hl (va, an) List.mem_cons_self
  obtain ⟨⟨lb, c2, e2, _⟩, _⟩ := hl (vu, au) (List.mem_cons_of_mem _ List.mem_cons_self)
  obtain ⟨⟨lx, c3, e3, _⟩, _⟩ := hl (ve, ex) (List.mem_cons_of_mem _ (List.mem_cons_of_mem _ List.mem_cons_self))
  simp only at e0 e1 e2 e3 hl0 hz0 hnm
  subst e0
  subst e1
  subst e2
  subst e3
  clear hl
  have kM : Keep (MgAt w (⟨h, .slice ao qs.length c, qs, .slice la an.length c1, an, .slice lb au.length c2, au, .slice lx ex.length c3, ex⟩ : Mg)) := hM
  clear hM
  have hql : qs.length ≤ 20 := hf.1
  have hla := (hf.2.2 _ List.mem_cons_self).1
  have hlu := (hf.2.2 _ (List.mem_cons_of_mem _ List.mem_cons_self)).1
  have hlx := (hf.2.2 _ (List.mem_cons_of_mem _ (List.mem_cons_of_mem _ List.mem_cons_self))).1
  simp only at hla hlu hlx
  have hcl : ∀ n ∈ [qs.length, an.length, au.length, ex.length], n ≤ 65535 := by intro n hn; simp only [List.mem_cons, List.not_mem_nil, or_false] at hn; omega
  have hhl : (hdB h [qs.length, an.length, au.length, ex.length]).length = 12 := hdB_len h _
  refine Ret.body Tryz.func6 rfl Tryz.ntmps6 rfl (Cd.seq (Cd.region (Seg.box rfl rfl rfl (fun w3 b3 hE3 hB3 hb3 => ?_))))
  have hlt3_0 := Nat.le_trans hE0.size hb3
  replace hE0 := Ext.trans hE0 hE3
  refine Seg.step rfl rfl (Yd.assign rfl) (Seg.step rfl rfl (Yd.assign rfl) (Seg.nil (At.then_ (Cd.seq (Cd.seq (Cd.region (Seg.step rfl rfl (Yd.loadN rfl rfl rfl hB3.row) ?_)))))))
  (refine Seg.call rfl rfl (own_of rfl) rfl (gcheck_any (⟨h, .slice ao qs.length c, qs, .slice la an.length c1, an, .slice lb au.length c2, au, .slice lx ex.length c3, ex⟩ : Mg) _ (MgAt.ext kM hE0) hf) ?_; rintro _ w12 ⟨⟨e0, rfl, hok0⟩, hE12⟩)
  replace hE3 := Ext.trans hE3 hE12
  replace hB3 := hB3.ext hE12
  replace hE0 := Ext.trans hE0 hE12
  refine Seg.step rfl rfl (Yd.assign rfl) (Seg.nil (At.then_ (Cd.seq (Cd.region (Seg.step rfl rfl (Yd.move rfl) (Seg.step rfl rfl (Yd.neq rfl rfl) (Seg.nil ?_)))))))
  refine At.then_ ?_
  refine Cd.condk rfl (fun h22 => ?_) (fun h22 => ?_)
  · refine Cd.seq (Cd.region (Seg.step rfl rfl (Yd.move rfl) (Seg.step rfl rfl (Yd.assign rfl) (Seg.step rfl rfl (Yd.assign rfl) (Seg.nil (At.then_ (Cd.ret ?_)))))))
    refine At.then_ret ?_
    exact At.ret Tryz.results6 (.tmp rfl (.tmp rfl .nil)) ⟨⟨_, [], rfl, fun h => absurd h (by assumption)⟩, hE0⟩
  refine Cd.skip (At.then_ (Cd.seq (Cd.region (Seg.step rfl rfl (Yd.fieldAddr rfl rfl) (Seg.step rfl rfl (Yd.load1 rfl rfl (hB3.row _ _ rfl)) (Seg.step rfl rfl (Yd.lenS rfl rfl) (Seg.step rfl rfl (Yd.fieldAddr rfl rfl) ?_)))))))
  refine Seg.step rfl rfl (Yd.load1 rfl rfl (hB3.row _ _ rfl)) (Seg.step rfl rfl (Yd.lenS rfl rfl) (Seg.step rfl rfl (Yd.fieldAddr rfl rfl) (Seg.step rfl rfl (Yd.load1 rfl rfl (hB3.row _ _ rfl)) (Seg.step rfl rfl (Yd.lenS rfl rfl) (Seg.step rfl rfl (Yd.fieldAddr rfl rfl) (Seg.step rfl rfl (Yd.load1 rfl rfl (hB3.row _ _ rfl)) (Seg.step rfl rfl (Yd.lenS rfl rfl) ?_)))))))
  refine Seg.step rfl rfl (Yd.buildArrT (cs := _ :: _ :: _ :: _ :: []) 4 rfl rfl rfl rfl rfl) (Seg.alloc rfl rfl rfl (fun w52 b52 hE52 hB52 hb52 => ?_))
  have hlt52_0 := Nat.le_trans hE12.size hb52
  have hlt52_1 := Nat.le_trans hE3.size hb52
  have hlt52_2 := Nat.lt_of_lt_of_le hB3.lt hb52
  have hlt52_3 := Nat.le_trans hE0.size hb52
  replace hE12 := Ext.trans hE12 hE52
  replace hE3 := Ext.trans hE3 hE52
  replace hB3 := hB3.ext hE52
  replace hE0 := Ext.trans hE0 hE52
  refine Seg.storeN rfl rfl rfl rfl hB52 rfl (by first | assumption | exact List.all_eq_true.1 rfl) (fun w53 hW53 hB53 => ?_)
  clear hB52
  replace hE52 := Ext.wr' hE52 hW53 (by omega)
  replace hE12 := Ext.wr' hE12 hW53 (by omega)
  replace hE3 := Ext.wr' hE3 hW53 (by omega)
  replace hB3 := hB3.wr hW53 (by omega)
  replace hE0 := Ext.wr' hE0 hW53 (by omega)
  refine Seg.nil (At.then_ (Cd.seq (Cd.region (Seg.step rfl rfl (Yd.fieldAddr rfl rfl) (Seg.step rfl rfl (Yd.loadN rfl rfl rfl (show Row _ (Addr.add _ 0) h.cells from hB3.row.part 0 10)) (Seg.step rfl rfl (Yd.loadN rfl rfl rfl hB53.row) ?_))))))
  (refine Seg.call rfl rfl (own_of rfl) rfl (hput_any h [qs.length, an.length, au.length, ex.length] _ (hok0 (Classical.not_not.1 (by assumption))).1 rfl hcl) ?_; rintro _ w61 ⟨rfl, hE61⟩)
  replace hW53 := Wr.trans hW53 (Ext.wr hE61 _)
  replace hB53 := hB53.ext hE61
  replace hE52 := Ext.trans hE52 hE61
  replace hE12 := Ext.trans hE12 hE61
  replace hE3 := Ext.trans hE3 hE61
  replace hB3 := hB3.ext hE61
  replace hE0 := Ext.trans hE0 hE61
  refine Seg.step rfl rfl (Yd.move rfl) (Seg.step rfl rfl (Yd.extract rfl rfl) (Seg.step rfl rfl (Yd.extract rfl rfl) (Seg.step rfl rfl (Yd.assign rfl) (Seg.step rfl rfl (Yd.assign rfl) (Seg.nil (At.then_ (Cd.seq ?_)))))))
  refine Cd.seq (Cd.region (Seg.step rfl rfl (Yd.move rfl) (Seg.step rfl rfl (Yd.neq rfl rfl) (Seg.nil (At.then_ (Cd.condF rfl (Cd.skip ?_)))))))
  refine At.then_ (Cd.seq (Cd.region (Seg.step rfl rfl (Yd.move rfl) ?_)))
  (refine Seg.stbM rfl rfl rfl rfl (by rw [hhl]; decide) (fun v82 w82 hE82 hM82 => ?_); obtain ⟨go, co, rfl, _, _, _⟩ := hM82.sl; have hM9 := hM82; have hlt9 := hM82.lt; have hb9 := Below.size hE0; replace hB3 := hB3.ext hE82; replace hE0 := Ext.trans hE0 hE82; clear hM82)
  refine Seg.step rfl rfl (Yd.buildT (cs := _ :: _ :: []) 2 rfl rfl rfl rfl rfl) (Seg.alloc rfl rfl rfl (fun w84 b84 hE84 hB84 hb84 => ?_))
  have hlt84_0 := Nat.le_trans hE82.size hb84
  have hlt84_1 := Nat.lt_of_lt_of_le hB3.lt hb84
  have hlt84_2 := Nat.le_trans hE0.size hb84
  replace hE82 := Ext.trans hE82 hE84
  replace hM9 := hM9.ext hE84
  replace hB3 := hB3.ext hE84
  replace hE0 := Ext.trans hE0 hE84
  refine Seg.storeN rfl rfl rfl rfl hB84 rfl (by first | assumption | exact List.all_eq_true.1 rfl) (fun w85 hW85 hB85 => ?_)
  clear hB84
  replace hE84 := Ext.wr' hE84 hW85 (by omega)
  replace hE82 := Ext.wr' hE82 hW85 (by omega)
  replace hB3 := hB3.wr hW85 (by omega)
  replace hE0 := Ext.wr' hE0 hW85 (by omega)
  refine Seg.nil (At.then_ (Cd.seq (Cd.seq ?_)))
  have hp84 : w.heap.size ≤ b84 := by omega
  have hp3 : w.heap.size ≤ b3 := by omega
  have hne : b3 ≠ b84 := by omega
  have hsa : w.heap.size ≤ w61.heap.size := Below.size (by assumption)
  have hsb := hB85.lt
  have hsc := hB3.lt
  have hok := hok0 (Classical.not_not.1 h22)
  have hoff : (Value.slice go (hdB h [qs.length, an.length, au.length, ex.length]).length co).ownBlock ≠ some b84 := fun e => by have := hlt9 _ e; omega
  have hM85 : OwnM w85 w61.heap.size (.slice go (hdB h [qs.length, an.length, au.length, ex.length]).length co) (hdB h [qs.length, an.length, au.length, ex.length]) := hM9.kept hW85 hoff
  have hB0 : Bx w85 b3 ((⟨h, .slice ao qs.length c, qs, .slice la an.length c1, an, .slice lb au.length c2, au, .slice lx ex.length c3, ex⟩ : Mg)).cells := hB3
  have hne0 : hdB h [qs.length, an.length, au.length, ex.length] ≠ [] := fun e => by rw [e] at hhl; cases hhl
  have hsd : w61.heap.size ≤ w85.heap.size := Nat.le_of_lt (Nat.lt_of_le_of_lt hlt84_0 hsb)
  clear hM9 hB3 hB53 hW53 hlt9
  refine Cd.cutw (σ := EnS) (fun t => [(2, .pointer (some ⟨b3, 0, none⟩)), (10, .pointer (some ⟨b84, 0, none⟩))]) (fun t w' => (EnAt w (⟨h, .slice ao qs.length c, qs, .slice la an.length c1, an, .slice lb au.length c2, au, .slice lx ex.length c3, ex⟩ : Mg) b84 w61.heap.size t.po t.bm t.m t.X t.F w' ∧ t.m = 0 ∧ t.X = hdB h [qs.length, an.length, au.length, ex.length]) ∧ Bx w' b3 ((⟨h, .slice ao qs.length c, qs, .slice la an.length c1, an, .slice lb au.length c2, au, .slice lx ex.length c3, ex⟩ : Mg)).cells) ?_ (fun s1 w1 hh => ?_)
  · cases pack with
    | false =>
      refine Cd.region (Seg.step rfl rfl (Yd.move rfl) (Seg.nil (At.then_ (Cd.condF rfl (Cd.skip ?_)))))
      exact At.cut (⟨none, b3, 0, hdB h [qs.length, an.length, au.length, ex.length], fun _ => none, 0, 0⟩ : EnS) (.cons rfl (.cons rfl (.nil _))) ⟨⟨⟨⟨_, hB85, hM85, .inl rfl, hne0, Ne.symm hne⟩, (fun s v hv => by cases hv), hE0, ⟨hp3, hsc, hsd⟩, ⟨[], (List.append_nil _).symm⟩, ⟨by rw [hhl]; decide, by rw [hhl]; decide⟩, fun key v hv => by cases hv⟩, rfl, rfl⟩, hB0⟩
    | true =>
      refine Cd.region (Seg.step rfl rfl (Yd.move rfl) (Seg.nil (At.then_ (Cd.condT rfl (Cd.region ?_)))))
      (refine Seg.call rfl rfl (own_of rfl) rfl (pnew_any _) ?_; rintro _ w92 ⟨⟨b9, bm9, rfl, hb9b, hb9m, hT9⟩, hE92⟩; have n1 : b9 ≠ b84 := Ne.symm (Nat.ne_of_lt (Nat.lt_of_lt_of_le hsb hb9b)); have n2 : bm9 ≠ b84 := Ne.symm (Nat.ne_of_lt (Nat.lt_of_lt_of_le hsb hb9m)); have n3 : w.heap.size ≤ bm9 := Nat.le_trans (Below.size hE0) hb9m)
      replace hW85 := Wr.trans hW85 (Ext.wr hE92 _)
      replace hB85 := hB85.ext hE92
      replace hE84 := Ext.trans hE84 hE92
      replace hE82 := Ext.trans hE82 hE92
      replace hE0 := Ext.trans hE0 hE92
      replace hM85 := hM85.ext hE92
      replace hB0 := hB0.ext hE92
      refine Seg.step rfl rfl (Yd.fieldAddr rfl rfl) ?_
      refine Seg.store1 rfl rfl rfl rfl rfl hB85 (by first | omega | (simp; done) | exact Nat.le_of_ble_eq_true rfl) (fun w94 hW94 hB94 => ?_)
      clear hB85
      replace hW85 := Wr.trans hW85 hW94
      replace hE84 := Ext.wr' hE84 hW94 (by omega)
      replace hE82 := Ext.wr' hE82 hW94 (by omega)
      replace hE0 := Ext.wr' hE0 hW94 (by omega)
      replace hB0 := hB0.wr hW94 (by omega)
      refine Seg.nil ?_
      exact At.cut (⟨some ⟨b9, 0, none⟩, bm9, 0, hdB h [qs.length, an.length, au.length, ex.length], fun _ => none, 0, 0⟩ : EnS) (.cons rfl (.cons rfl (.nil _))) ⟨⟨⟨⟨_, hB94, hM85.kept hW94 hoff, .inr ⟨b9, rfl, hT9.1.wr hW94 n1, hT9.2.1.wr hW94 n2, hT9.2.2⟩, hne0, Ne.symm n2⟩, (fun s v hv => by cases hv), hE0, ⟨n3, (hT9.2.1.wr hW94 n2).lt, Nat.le_trans hsd (Nat.le_trans (Below.size (by assumption : Ext w85 w92)) hW94.size)⟩, ⟨[], (List.append_nil _).symm⟩, ⟨by rw [hhl]; decide, by rw [hhl]; decide⟩, fun key v hv => by cases hv⟩, rfl, rfl⟩, hB0⟩
  · obtain ⟨po, bm, m, X0, F0, _, _⟩ := s1
    obtain ⟨⟨hen, hm0, hX0⟩, hB1⟩ := hh
    simp only at hen hm0 hX0
    have h12 : X0.length = 12 := by rw [hX0]; exact hhl
    clear hB0 hM85 hE0 hB85
    have hEa := hen.ext
    have hlsf := hf.2.2
    have hls : ∀ i, i < 3 → ∃ x, ((⟨h, .slice ao qs.length c, qs, .slice la an.length c1, an, .slice lb au.length c2, au, .slice lx ex.length c3, ex⟩ : Mg)).ls[i]? = some x := fun i hi => ⟨_, List.getElem?_eq_getElem (by rw [ls_len]; exact hi)⟩
    refine Cd.seq (Cd.seq (Cd.region (Seg.step rfl rfl (Yd.fieldAddr rfl rfl) (Seg.step rfl rfl (Yd.load1 rfl rfl (hB1.row _ _ rfl)) (Seg.step rfl rfl (Yd.lenS rfl rfl) (Seg.step rfl rfl (Yd.move rfl) (Seg.nil ?_)))))))
    refine At.then_ (Cd.block ?_)
    refine Cd.loop (σ := EnS) (fun t => [(2, .pointer (some ⟨b3, 0, none⟩)), (10, .pointer (some ⟨b84, 0, none⟩)), (54, .slice ao qs.length c), (55, .int .i64 (qs.length : Int)), (56, .int .i64 (t.i : Int))])
      (fun t w' => (t.i ≤ qs.length ∧ t.m ≤ 768 * t.i ∧ QsRd t.X 12 ((qs.take t.i).map Qm.toD) t.X.length) ∧ EnAt w (⟨h, .slice ao qs.length c, qs, .slice la an.length c1, an, .slice lb au.length c2, au, .slice lx ex.length c3, ex⟩ : Mg) b84 w61.heap.size po bm t.m t.X t.F w' ∧ Bx w' b3 ((⟨h, .slice ao qs.length c, qs, .slice la an.length c1, an, .slice lb au.length c2, au, .slice lx ex.length c3, ex⟩ : Mg)).cells) (fun t => qs.length - t.i) ⟨po, bm, m, X0, F0, 0, 0⟩ (.cons rfl (.cons rfl (.cons rfl (.cons rfl (.cons rfl (.nil _)))))) ⟨⟨Nat.zero_le _, by show m ≤ 768 * 0; omega, h12.symm⟩, EnAt.more hen (by first | assumption | exact Ext.refl _), hB1⟩ ?_
    clear hen hB1 hEa
    rintro ⟨_, _, m1, X, F, i, _⟩ w2 ⟨⟨hi, hmi, hQ⟩, hen, hB1⟩
    simp only at hi hmi hQ hen ⊢
    by_cases hlt : i < qs.length
    · obtain ⟨a, rfl⟩ : ∃ a, ao = some a := by
        cases ao with
        | none => have := hz0 rfl; omega
        | some a => exact ⟨a, rfl⟩
      have hr0 := hr0 a rfl
      obtain ⟨q, hqj⟩ : ∃ q, qs[i]? = some q := ⟨_, List.getElem?_eq_getElem hlt⟩
      have hqm := List.mem_of_getElem? hqj
      have hNq := hnm q hqm
      obtain ⟨hck, hk16, hc16⟩ := hok.2.1 q hqm
      have hsl : ∃ ao co, q.v = .slice ao q.n.length co := by obtain ⟨ao, co, e, _⟩ := hNq; exact ⟨ao, co, e⟩
      obtain ⟨qn, qv, qk, qc⟩ := q
      obtain ⟨qa, qo, hqv⟩ := hsl
      simp only at hqv hNq hck hk16 hc16
      subst hqv
      obtain ⟨kk, rfl⟩ : ∃ n : Nat, qk = (n : Int) := ⟨qk.toNat, (Int.toNat_of_nonneg hk16.1).symm⟩
      obtain ⟨cc, rfl⟩ : ∃ n : Nat, qc = (n : Int) := ⟨qc.toNat, (Int.toNat_of_nonneg hc16.1).symm⟩
      have hkk : kk < 65536 := by have := hk16.2; omega
      have hcc : cc < 65536 := by have := hc16.2; omega
      have hrow : Row w (a.add (i * 3)) [.slice qa qn.length qo, .int .i64 (kk : Int), .int .i64 (cc : Int)] := by
        have h1 := hr0.part (i * 3) 3
        rw [qm_row hqj] at h1; exact h1
      have hE1 := hen.ext
      have hEn := Ext.refl w2
      have kH : Keep (EnAt w (⟨h, .slice (some a) qs.length c, qs, .slice la an.length c1, an, .slice lb au.length c2, au, .slice lx ex.length c3, ex⟩ : Mg) b84 w61.heap.size po bm m1 X F w2) := hen
      have hl9 := hen.len.2
      clear hen
      refine Cd.seq (Cd.region (Seg.step rfl rfl (Yd.lss rfl rfl) (Seg.nil (At.then_ (Cd.seq ?_)))))
      refine Cd.condk rfl (fun h92 => ?_) (fun h92 => ?_)
      · refine Cd.skip (At.then_ (Cd.seq (Cd.block (Cd.seq (Cd.region (Seg.step rfl rfl (Yd.indexAddr rfl rfl rfl (NatOf.cast _) (by omega)) (Seg.step rfl rfl (Yd.loadN rfl rfl rfl (hrow.ext hE1)) ?_)))))))
        refine Seg.alloc rfl rfl rfl (fun w102 b102 hE102 hB102 hb102 => ?_)
        have hlt102_0 := Nat.lt_of_lt_of_le hB1.lt hb102
        have hlt102_1 := Nat.le_trans hE1.size hb102
        have hlt102_2 := Nat.le_trans hEn.size hb102
        replace hB1 := hB1.ext hE102
        replace hE1 := Ext.trans hE1 hE102
        replace hEn := Ext.trans hEn hE102
        refine Seg.storeN rfl rfl rfl rfl hB102 rfl (by first | assumption | exact List.all_eq_true.1 rfl) (fun w103 hW103 hB103 => ?_)
        clear hB102
        replace hE102 := Ext.wr' hE102 hW103 (by omega)
        replace hB1 := hB1.wr hW103 (by omega)
        replace hE1 := Ext.wr' hE1 hW103 (by omega)
        replace hEn := Ext.wr' hEn hW103 (by omega)
        refine Seg.nil (At.then_ (Cd.seq (Cd.region (Seg.step rfl rfl (Yd.loadN rfl rfl rfl hB103.row) ?_))))
        (refine Seg.call rfl rfl (own_of rfl) rfl (vquest_any w qn _ b84 w61.heap.size bm m1 kk cc X po F _ (EnAt.more kH hEn).at' kH.ok hE1 hp84 kH.le.1 hsa (EnAt.more kH hEn).le.2.2 (by omega) hNq hck (by omega) hkk hcc) ?_; rintro _ w109 ⟨rfl, X2, F2, m2, hD, hrd⟩; obtain ⟨hT2, hq2⟩ := hrd kH.tab; have kD : Keep (WDone w b84 w61.heap.size bm m1 X po F _ w109 X2 F2 m2) := hD; have kH2 : Keep (EnAt w (⟨h, .slice (some a) qs.length c, qs, .slice la an.length c1, an, .slice lb au.length c2, au, .slice lx ex.length c3, ex⟩ : Mg) b84 w61.heap.size po bm m1 X F _) := EnAt.more kH hEn; have hB9 : Bx w109 b3 ((⟨h, .slice (some a) qs.length c, qs, .slice la an.length c1, an, .slice lb au.length c2, au, .slice lx ex.length c3, ex⟩ : Mg)).cells := hD.keep b3 _ _ hB1 (fun _ e => by cases e) hne; have hE9 : Ext w w109 := hD.ext; have hlX := hD.len; have hmm := hD.le; have hEm := Ext.refl w109; clear hD hB1 hE1 hEn)
        (refine Seg.call rfl rfl (own_of rfl) rfl (vroom_any b84 w61.heap.size bm m2 0 X2 po F2 _ (WrV.ext (show WrV _ _ _ _ _ _ _ _ from WDone.at' kD) hEm) (by omega)) ?_; rintro _ w110 ⟨⟨e9, rfl, hroom⟩, hE110⟩)
        replace hB9 := hB9.ext hE110
        replace hE9 := Ext.trans hE9 hE110
        replace hEm := Ext.trans hEm hE110
        refine Seg.step rfl rfl (Yd.assign rfl) (Seg.nil (At.then_ (Cd.seq (Cd.region (Seg.step rfl rfl (Yd.move rfl) (Seg.step rfl rfl (Yd.neq rfl rfl) (Seg.nil ?_)))))))
        refine At.then_ ?_
        refine Cd.condk rfl (fun h120 => ?_) (fun h120 => ?_)
        · refine Cd.seq (Cd.region (Seg.step rfl rfl (Yd.move rfl) (Seg.step rfl rfl (Yd.assign rfl) (Seg.step rfl rfl (Yd.assign rfl) (Seg.nil (At.then_ (Cd.ret ?_)))))))
          refine At.blk_ret (At.then_ret (At.then_ret (At.blk_ret (At.then_ret ?_))))
          exact At.ret Tryz.results6 (.tmp rfl (.tmp rfl .nil)) ⟨⟨_, [], rfl, fun h => absurd h (by assumption)⟩, hE9⟩
        · refine Cd.skip (At.blk (At.then_ (Cd.region (Seg.step rfl rfl (Yd.addI rfl rfl (by omega)) (Seg.step rfl rfl (Yd.move rfl) (Seg.nil ?_))))))
          exact At.round (⟨po, bm, m2, X2, F2, i + 1, 0⟩ : EnS) (.cons rfl (.cons rfl (.cons rfl (.cons rfl (.cons rfl (.nil _)))))) ⟨⟨hlt, m_q hmi hmm, q_step hqj hQ (WDone.pre kD) hq2⟩, EnAt.more (EnAt.step kH2 kD (hroom (Classical.not_not.1 (by assumption))).2 hT2) hEm, hB9⟩ (Nat.sub_lt_sub_left hlt (Nat.lt_succ_self i))
      · exfalso; omega
    · obtain rfl : i = qs.length := by omega
      rw [List.take_length] at hQ
      have kH : Keep (EnAt w (⟨h, .slice ao qs.length c, qs, .slice la an.length c1, an, .slice lb au.length c2, au, .slice lx ex.length c3, ex⟩ : Mg) b84 w61.heap.size po bm m1 X F w2) := hen
      have hE1 := hen.ext
      clear hen
      refine Cd.seq (Cd.region (Seg.step rfl rfl (Yd.lss rfl rfl) (Seg.nil (At.then_ (Cd.seq ?_)))))
      refine Cd.condk rfl (fun h92 => ?_) (fun h92 => ?_)
      · exfalso; omega
      refine Cd.exit (At.then_exit (At.then_exit (At.blk_same (At.then_ (Cd.seq (Cd.seq (Cd.region ?_)))))))
      refine Seg.step rfl rfl (Yd.loadN rfl rfl rfl hB1.row) ?_
      (refine Seg.call rfl rfl (own_of rfl) rfl (glists_any (⟨h, .slice ao qs.length c, qs, .slice la an.length c1, an, .slice lb au.length c2, au, .slice lx ex.length c3, ex⟩ : Mg) _ (MgAt.ext kM hE1)) ?_; rintro _ w103 ⟨rfl, hE103⟩; have hEn : Ext w2 w103 := hE103)
      replace hB1 := hB1.ext hE103
      replace hE1 := Ext.trans hE1 hE103
      refine Seg.step rfl rfl (Yd.move rfl) (Seg.nil (At.then_ (Cd.block ?_)))
      refine Cd.loop (σ := EnS) (fun t => [(10, .pointer (some ⟨b84, 0, none⟩)), (68, .agg #[.slice la an.length c1, .slice lb au.length c2, .slice lx ex.length c3]), (69, .int .i64 (t.i : Int))])
        (fun t w' => (t.i ≤ 3 ∧ t.m ≤ 15360 + 23040 * t.i ∧ QsRd t.X 12 (qs.map Qm.toD) t.b ∧ LsRd t.X t.b (((⟨h, .slice ao qs.length c, qs, .slice la an.length c1, an, .slice lb au.length c2, au, .slice lx ex.length c3, ex⟩ : Mg)).ls.take t.i) t.X.length) ∧ EnAt w (⟨h, .slice ao qs.length c, qs, .slice la an.length c1, an, .slice lb au.length c2, au, .slice lx ex.length c3, ex⟩ : Mg) b84 w61.heap.size po bm t.m t.X t.F w') (fun t => 3 - t.i) ⟨po, bm, m1, X, F, 0, X.length⟩ (.cons rfl (.cons rfl (.cons rfl (.nil _)))) ⟨⟨Nat.zero_le _, by show m1 ≤ 15360 + 23040 * 0; omega, hQ, rfl⟩, EnAt.more kH (by assumption)⟩ ?_
      clear kH hE1 hEn hB1 hQ
      rintro ⟨_, _, m2, X2, F2, i2, b⟩ w3 ⟨⟨hi2, hmi2, hQ, hL⟩, hen⟩
      simp only at hi2 hmi2 hQ hL hen ⊢
      by_cases hlt2 : i2 < 3
      · obtain ⟨x, hx⟩ := hls i2 hlt2
        obtain ⟨lo, lc, _, hrr, hrz, hra, hv⟩ := ls_slice kM hx
        have hxl := (hlsf x (List.mem_of_getElem? hx)).1
        have hxf := (hlsf x (List.mem_of_getElem? hx)).2
        have hxo := hok.2.2 x (List.mem_of_getElem? hx)
        have hE1 := hen.ext
        have kH : Keep (EnAt w (⟨h, .slice ao qs.length c, qs, .slice la an.length c1, an, .slice lb au.length c2, au, .slice lx ex.length c3, ex⟩ : Mg) b84 w61.heap.size po bm m2 X2 F2 w3) := hen
        have hEn := Ext.refl w3
        clear hen
        refine Cd.seq (Cd.region (Seg.step rfl rfl (Yd.lss rfl rfl) (Seg.nil (At.then_ (Cd.seq ?_)))))
        refine Cd.condk rfl (fun h110 => ?_) (fun h110 => ?_)
        rotate_left 1
        · exfalso; omega
        rotate_right 1
        refine Cd.skip (At.then_ (Cd.seq (Cd.block (Cd.seq (Cd.region ?_)))))
        (refine Seg.step rfl rfl (Yd.indexV rfl rfl rfl rfl (NatOf.cast _) hlt2 hv) ?_)
        refine Seg.step rfl rfl (Yd.assign rfl) (Seg.nil (At.then_ (Cd.seq (Cd.region (Seg.step rfl rfl (Yd.move rfl) (Seg.step rfl rfl (Yd.lenS rfl rfl) (Seg.step rfl rfl (Yd.move rfl) ?_)))))))
        refine Seg.nil (At.then_ (Cd.block ?_))
        refine Cd.loop (σ := EnS) (fun t => [(10, .pointer (some ⟨b84, 0, none⟩)), (68, .agg #[.slice la an.length c1, .slice lb au.length c2, .slice lx ex.length c3]), (69, .int .i64 (i2 : Int)), (72, .slice lo x.2.length lc), (73, .int .i64 (x.2.length : Int)), (74, .int .i64 (t.i : Int))])
          (fun t w' => (t.i ≤ x.2.length ∧ t.m ≤ 15360 + 23040 * i2 + 768 * t.i ∧ QsRd t.X 12 (qs.map Qm.toD) b ∧ LsRd t.X b (((⟨h, .slice ao qs.length c, qs, .slice la an.length c1, an, .slice lb au.length c2, au, .slice lx ex.length c3, ex⟩ : Mg)).ls.take i2) t.b ∧ RsRd t.X t.b (x.2.take t.i) t.X.length) ∧ EnAt w (⟨h, .slice ao qs.length c, qs, .slice la an.length c1, an, .slice lb au.length c2, au, .slice lx ex.length c3, ex⟩ : Mg) b84 w61.heap.size po bm t.m t.X t.F w') (fun t => x.2.length - t.i) ⟨po, bm, m2, X2, F2, 0, X2.length⟩ (.cons rfl (.cons rfl (.cons rfl (.cons rfl (.cons rfl (.cons rfl (.nil _))))))) ⟨⟨Nat.zero_le _, by show m2 ≤ 15360 + 23040 * i2 + 768 * 0; omega, hQ, hL, rfl⟩, EnAt.more kH (by assumption)⟩ ?_
        clear kH hE1 hEn hQ hL
        rintro ⟨_, _, m3, X3, F3, j, b'⟩ w4 ⟨⟨hj, hmj, hQ, hL, hR⟩, hen⟩
        simp only at hj hmj hQ hL hR hen ⊢
        by_cases hjt : j < x.2.length
        · obtain ⟨a, rfl⟩ : ∃ a, lo = some a := by
            cases lo with
            | none => have := hrz rfl; omega
            | some a => exact ⟨a, rfl⟩
          obtain ⟨r, hrj⟩ : ∃ r, x.2[j]? = some r := ⟨_, List.getElem?_eq_getElem hjt⟩
          have hrm := List.mem_of_getElem? hrj
          have hrow := recs_part (hrr a rfl) hrj
          have hone := rec_one (hra r hrm)
          have hE1 := hen.ext
          have hEn := Ext.refl w4
          have kH : Keep (EnAt w (⟨h, .slice ao qs.length c, qs, .slice la an.length c1, an, .slice lb au.length c2, au, .slice lx ex.length c3, ex⟩ : Mg) b84 w61.heap.size po bm m3 X3 F3 w4) := hen
          have hl9 := hen.len.2
          clear hen
          refine Cd.seq (Cd.region (Seg.step rfl rfl (Yd.lss rfl rfl) (Seg.nil (At.then_ (Cd.seq ?_)))))
          refine Cd.condk rfl (fun h117 => ?_) (fun h117 => ?_)
          · refine Cd.skip (At.then_ (Cd.seq (Cd.block (Cd.seq (Cd.region (Seg.step rfl rfl (Yd.indexAddr rfl rfl rfl (NatOf.cast _) (by omega)) (Seg.step rfl rfl (Yd.loadN rfl rfl rfl (hrow.ext hE1)) ?_)))))))
            refine Seg.alloc rfl rfl rfl (fun w127 b127 hE127 hB127 hb127 => ?_)
            have hlt127_0 := Nat.le_trans hE1.size hb127
            have hlt127_1 := Nat.le_trans hEn.size hb127
            replace hE1 := Ext.trans hE1 hE127
            replace hEn := Ext.trans hEn hE127
            refine Seg.storeN rfl rfl rfl rfl hB127 rfl (by first | assumption | exact List.all_eq_true.1 rfl) (fun w128 hW128 hB128 => ?_)
            clear hB127
            replace hE127 := Ext.wr' hE127 hW128 (by omega)
            replace hE1 := Ext.wr' hE1 hW128 (by omega)
            replace hEn := Ext.wr' hEn hW128 (by omega)
            refine Seg.nil (At.then_ (Cd.seq (Cd.region (Seg.step rfl rfl (Yd.loadN rfl rfl rfl hB128.row) ?_))))
            (refine Seg.call rfl rfl (own_of rfl) rfl (vrecord_any w r b84 w61.heap.size bm m3 X3 po F3 _ (EnAt.more kH hEn).at' kH.ok hE1 hp84 kH.le.1 hsa (EnAt.more kH hEn).le.2.2 (by omega) (hra r hrm) (hxf r hrm).2 (hxf r hrm).1 (hxo r hrm) (by omega) (EnAt.more kH hEn).le.2.1) ?_; rintro _ w134 ⟨e8, rfl, X4, F4, m4, hD, hrd⟩; have krd : Keep (e8 = 0 → X4.length ≤ 65535 → TabRd X3 F3 → TabRd X4 F4 ∧ RecRd X4 X3.length r X4.length) := hrd; have kD : Keep (WDone w b84 w61.heap.size bm m3 X3 po F3 _ w134 X4 F4 m4) := hD; have kH2 : Keep (EnAt w (⟨h, .slice ao qs.length c, qs, .slice la an.length c1, an, .slice lb au.length c2, au, .slice lx ex.length c3, ex⟩ : Mg) b84 w61.heap.size po bm m3 X3 F3 _) := EnAt.more kH hEn; have hE9 : Ext w w134 := hD.ext; have hlX := hD.len; have hmm := hD.le; have hEm := Ext.refl w134; clear hD hrd hE1 hEn)
            (refine Seg.call rfl rfl (own_of rfl) rfl (vroom_any b84 w61.heap.size bm m4 e8 X4 po F4 _ (WrV.ext (show WrV _ _ _ _ _ _ _ _ from WDone.at' kD) hEm) (by omega)) ?_; rintro _ w135 ⟨⟨e9, rfl, hroom⟩, hE135⟩)
            replace hE9 := Ext.trans hE9 hE135
            replace hEm := Ext.trans hEm hE135
            refine Seg.step rfl rfl (Yd.assign rfl) (Seg.nil (At.then_ (Cd.seq (Cd.region (Seg.step rfl rfl (Yd.move rfl) (Seg.step rfl rfl (Yd.neq rfl rfl) (Seg.nil ?_)))))))
            refine At.then_ ?_
            refine Cd.condk rfl (fun h145 => ?_) (fun h145 => ?_)
            · refine Cd.seq (Cd.region (Seg.step rfl rfl (Yd.move rfl) (Seg.step rfl rfl (Yd.assign rfl) (Seg.step rfl rfl (Yd.assign rfl) (Seg.nil (At.then_ (Cd.ret ?_)))))))
              refine At.blk_ret (At.then_ret (At.then_ret (At.blk_ret (At.blk_ret (At.then_ret (At.then_ret (At.blk_ret ?_)))))))
              refine At.then_ret ?_
              exact At.ret Tryz.results6 (.tmp rfl (.tmp rfl .nil)) ⟨⟨_, [], rfl, fun h => absurd h (by assumption)⟩, hE9⟩
            · refine Cd.skip (At.blk (At.then_ (Cd.region (Seg.step rfl rfl (Yd.addI rfl rfl (by omega)) (Seg.step rfl rfl (Yd.move rfl) (Seg.nil ?_))))))
              exact At.round (⟨po, bm, m4, X4, F4, j + 1, b'⟩ : EnS) (.cons rfl (.cons rfl (.cons rfl (.cons rfl (.cons rfl (.cons rfl (.nil _))))))) ⟨⟨hjt, m_step hmj hmm, r_step hrj hQ hL hR (WDone.pre kD) (krd (hroom (Classical.not_not.1 (by assumption))).1 (hroom (Classical.not_not.1 (by assumption))).2 kH2.tab).2⟩, EnAt.more (EnAt.step kH2 kD (hroom (Classical.not_not.1 (by assumption))).2 (krd (hroom (Classical.not_not.1 (by assumption))).1 (hroom (Classical.not_not.1 (by assumption))).2 kH2.tab).1) hEm⟩ (Nat.sub_lt_sub_left hjt (Nat.lt_succ_self j))
          · exfalso; omega
        · obtain rfl : j = x.2.length := by omega
          rw [List.take_length] at hR
          have kH : Keep (EnAt w (⟨h, .slice ao qs.length c, qs, .slice la an.length c1, an, .slice lb au.length c2, au, .slice lx ex.length c3, ex⟩ : Mg) b84 w61.heap.size po bm m3 X3 F3 w4) := hen
          have hEn := Ext.refl w4
          clear hen
          refine Cd.seq (Cd.region (Seg.step rfl rfl (Yd.lss rfl rfl) (Seg.nil (At.then_ (Cd.seq ?_)))))
          refine Cd.condk rfl (fun h117 => ?_) (fun h117 => ?_)
          · exfalso; omega
          · refine Cd.exit (At.then_exit (At.then_exit (At.blk_same (At.blk (At.then_ (Cd.region (Seg.step rfl rfl (Yd.addI rfl rfl (by omega)) ?_)))))))
            refine Seg.step rfl rfl (Yd.move rfl) (Seg.nil ?_)
            exact At.round (⟨po, bm, m3, X3, F3, i2 + 1, b⟩ : EnS) (.cons rfl (.cons rfl (.cons rfl (.nil _)))) ⟨⟨hlt2, m_end hmj hxl, hQ, l_step hx hL hR⟩, EnAt.more kH hEn⟩ (Nat.sub_lt_sub_left hlt2 (Nat.lt_succ_self i2))
      · obtain rfl : i2 = 3 := by omega
        have kH : Keep (EnAt w (⟨h, .slice ao qs.length c, qs, .slice la an.length c1, an, .slice lb au.length c2, au, .slice lx ex.length c3, ex⟩ : Mg) b84 w61.heap.size po bm m2 X2 F2 w3) := hen
        obtain ⟨vo, p1, p2, _, _, _⟩ := hen.at'
        obtain ⟨vg, vc, rfl, _, _, _⟩ := p2.sl
        have hEn := Ext.refl w3
        have hE1 := hen.ext
        clear hen
        refine Cd.seq (Cd.region (Seg.step rfl rfl (Yd.lss rfl rfl) (Seg.nil (At.then_ (Cd.seq (Cd.condF rfl (Cd.exit ?_)))))))
        refine At.then_exit (At.then_exit (At.blk_same (At.then_ (Cd.seq (Cd.region (Seg.step rfl rfl (Yd.fieldAddr rfl rfl) (Seg.step rfl rfl (Yd.load1 rfl rfl (p1.row _ _ rfl)) ?_)))))))
        (refine Seg.step rfl rfl (Yd.bts (l := X2) rfl rfl rfl rfl (OwnM.sl (OwnM.ext p2 hEn))) ?_)
        refine Seg.step rfl rfl (Yd.assign rfl) (Seg.step rfl rfl (Yd.assign rfl) (Seg.nil (At.then_ (Cd.ret ?_))))
        exact At.ret Tryz.results6 (.tmp rfl (.tmp rfl .nil)) ⟨⟨_, X2, rfl, fun _ => ⟨hok, (show EnAt _ _ _ _ _ _ _ _ _ _ from kH).len, (show EnAt _ _ _ _ _ _ _ _ _ _ from kH).pre, b, hQ, hL⟩⟩, hE1⟩
end Go.Proofs.YtahpiaaffeiadaaGreat
