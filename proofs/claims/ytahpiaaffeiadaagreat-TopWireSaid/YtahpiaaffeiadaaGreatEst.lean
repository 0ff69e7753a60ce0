/- Frames on a connection: package stream. -/
import Derived.Test.YtahpiaaffeiadaaGreatEpd
import Derived.Test.YtahpiaaffeiadaaGreatEsh
import Derived.Test.YtahpiaaffeiadaaGreatWdf
import Derived.Laws.CopyRow
import Derived.Lib.BufferWrite
namespace Go.Proofs.YtahpiaaffeiadaaGreat
open Go Go.RowKit
/-- Pieces that came, the last one first. -/
def PcAt (w : World) : Value → List (List UInt8) → Prop
  | v, [] => v = .pointer none
  | v, t :: r => ∃ b v', v = .pointer (some ⟨b, 0, none⟩) ∧ Bx w b [.string ⟨t.toArray⟩, v'] ∧ PcAt w v' r
theorem PcAt.ext {w w' : World} (hE : Ext w w') : ∀ {l : List (List UInt8)} {v : Value}, PcAt w v l → PcAt w' v l
  | [], _, h => h
  | _ :: _, _, ⟨b, v', h1, h2, h3⟩ => ⟨b, v', h1, h2.ext hE, h3.ext hE⟩
theorem bx_len {w : World} {p q : Nat} {cs ds : List Value} (h : Bx w p cs) (hq : Bx w q ds) (hl : Nat.beq cs.length ds.length = false) : p ≠ q := fun e => by
  subst e
  obtain ⟨T, hT⟩ := h
  obtain ⟨U, hU⟩ := hq
  rw [hT] at hU
  have e : cs.toArray = ds.toArray := by injection hU with h; injection h
  have e2 : cs.length = ds.length := by rw [← List.size_toArray, e, List.size_toArray]
  rw [e2, Nat.beq_refl] at hl
  cases hl
theorem PcAt.wr {w w' : World} {j : Nat} {ds : List Value} (hj : Bx w j ds) (hd : Nat.beq 2 ds.length = false) (hW : Wr j w w') : ∀ {l : List (List UInt8)} {v : Value}, PcAt w v l → PcAt w' v l
  | [], _, h => h
  | _ :: _, _, ⟨b, v', h1, h2, h3⟩ => ⟨b, v', h1, h2.wr hW (bx_len h2 hj hd), h3.wr hj hd hW⟩
theorem PcAt.ptr {w : World} : ∀ {l : List (List UInt8)} {v : Value}, PcAt w v l → ∃ p, v = .pointer p
  | [], _, h => ⟨none, h⟩
  | _ :: _, _, ⟨_, _, h1, _, _⟩ => ⟨_, h1⟩
/-- A Joiner that holds X in pieces. -/
def JnAt (w : World) (j : Nat) (X : List UInt8) (l : List (List UInt8)) : Prop :=
  l.reverse.flatten = X ∧ ∃ (v : Value) (e0 e1 : UInt8), Bx w j [v, .int .i64 (X.length : Nat), .int .u8 e0.toNat, .int .u8 e1.toNat] ∧ PcAt w v l ∧ (0 < X.length → e0 = X.getD 0 0) ∧ (1 < X.length → e1 = X.getD 1 0)
structure KpS where
  i : Nat
  e0 : UInt8
  e1 : UInt8
theorem skeep_any (X s : List UInt8) (l : List (List UInt8)) (j : Nat) (w : World) (hJ : JnAt w j X l) (hX : X.length ≤ 1000000000) (hs : s.length ≤ 1000000000) :
    Ret Tryz.prog 23 #[.pointer (some ⟨j, 0, none⟩), .string ⟨s.toArray⟩] w fun _ w' => ∃ l', JnAt w' j (X ++ s) l' ∧ Wr j w w' := by
  have hE0 := Ext.refl w
  obtain ⟨hl, v, e0, e1, hB, hP, h0, h1⟩ := hJ
  obtain ⟨po, rfl⟩ := hP.ptr
  have hW0 := Ext.wr hE0 j
  refine Ret.body Tryz.func23 rfl Tryz.ntmps23 rfl ?_
  by_cases hz : s = []
  · subst hz
    refine Cd.seq (Cd.seq (Cd.region (Seg.step rfl rfl (Yd.move rfl) (Seg.step rfl rfl (Yd.eqlS rfl rfl) (Seg.nil (At.then_ (Cd.condT rfl ?_)))))))
    refine Cd.ret (At.then_ret ?_)
    exact At.ret Tryz.results23 .nil ⟨l, by rw [List.append_nil]; exact ⟨hl, _, e0, e1, hB, hP, h0, h1⟩, hW0⟩
  · have hs1 : 0 < s.length := List.length_pos_iff.2 hz
    obtain ⟨Y, hY⟩ : ∃ Y, Y = X ++ s := ⟨_, rfl⟩
    have hYl : Y.length = X.length + s.length := by rw [hY, List.length_append]
    have hYX : ∀ k, k < X.length → Y.getD k 0 = X.getD k 0 := fun k hk => by rw [hY]; simp [List.getD, List.getElem?_append_left hk]
    have hYs : ∀ k, X.length ≤ k → Y.getD k 0 = s.getD (k - X.length) 0 := fun k hk => by rw [hY]; simp [List.getD, List.getElem?_append_right hk]
    refine Cd.seq (Cd.seq (Cd.region (Seg.step rfl rfl (Yd.move rfl) (Seg.step rfl rfl (Yd.eqlS rfl rfl) (Seg.nil (At.then_ ?_))))))
    refine Cd.condk rfl (fun h9 => ?_) (fun h9 => ?_)
    · contradiction
    refine Cd.skip (At.then_ (Cd.seq (Cd.seq (Cd.region (Seg.step rfl rfl (Yd.move rfl) (Seg.step rfl rfl (Yd.nilCheckP rfl) (Seg.step rfl rfl (Yd.fieldAddr rfl rfl) ?_)))))))
    refine Seg.step rfl rfl (Yd.load1 rfl rfl (hB.row _ _ rfl)) (Seg.step rfl rfl (Yd.assign rfl) (Seg.nil (At.then_ (Cd.block ?_))))
    refine Cd.loop (σ := KpS) (fun t => [(0, .pointer (some ⟨j, 0, none⟩)), (1, .string ⟨s.toArray⟩), (4, .int .i64 (t.i : Int))])
      (fun t w' => (X.length ≤ t.i ∧ t.i ≤ Y.length ∧ (t.i ≤ 2 ∨ t.i = X.length)) ∧ Bx w' j [.pointer po, .int .i64 (X.length : Nat), .int .u8 t.e0.toNat, .int .u8 t.e1.toNat] ∧ ((0 < t.i → t.e0 = Y.getD 0 0) ∧ (1 < t.i → t.e1 = Y.getD 1 0)) ∧ Wr j w w') (fun t => Y.length - t.i) ⟨X.length, e0, e1⟩ (.cons rfl (.cons rfl (.cons rfl (.nil _))))
      ⟨⟨Nat.le_refl _, by show X.length ≤ _; omega, .inr rfl⟩, hB, ⟨fun h => (by rw [h0 h, hYX _ h]), fun h => (by rw [h1 h, hYX _ h])⟩, hW0⟩ ?_
    have kB : Keep (Bx w j [.pointer po, .int .i64 (X.length : Nat), .int .u8 e0.toNat, .int .u8 e1.toNat]) := hB
    clear hB hW0 hE0 h0 h1
    rintro ⟨i, e0, e1⟩ w1 ⟨⟨hi, hi2, hi3⟩, hB, ⟨h0, h1⟩, hW0⟩
    simp only at hi hi2 hi3 hB h0 h1 ⊢
    by_cases hlt : i < 2 ∧ i < Y.length
    · have hix : i - X.length < s.length := by omega
      have hsi : (i : Int) - (X.length : Int) < (s.length : Int) := by omega
      have hi2' : (i : Int) < 2 := by omega
      have hno : NatOf ((i : Int) - (X.length : Int)) (i - X.length) := by unfold NatOf; omega
      have hgd := hYs i hi
      have hEn := Ext.refl w1
      rcases i with _ | _ | i
      · refine Cd.seq (Cd.seq (Cd.region (Seg.step rfl rfl (Yd.move rfl) (Seg.step rfl rfl (Yd.lss rfl rfl) (Seg.step rfl rfl (Yd.move rfl) (Seg.step rfl rfl (Yd.move rfl) (Seg.step rfl rfl (Yd.move rfl) ?_)))))))
        refine Seg.step rfl rfl (Yd.nilCheckP rfl) (Seg.step rfl rfl (Yd.fieldAddr rfl rfl) (Seg.step rfl rfl (Yd.load1 rfl rfl (hB.row _ _ rfl)) (Seg.step rfl rfl (Yd.subI rfl rfl (by omega)) (Seg.step rfl rfl (Yd.move rfl) (Seg.step rfl rfl (Yd.lenStr rfl rfl) (Seg.step rfl rfl (Yd.lss rfl rfl) (Seg.step rfl rfl (Yd.pickT rfl rfl) ?_)))))))
        refine Seg.nil (At.then_ ?_)
        refine Cd.condk rfl (fun h28 => ?_) (fun h28 => ?_)
        · refine Cd.skip (At.then_ (Cd.seq (Cd.block (Cd.still 13 (by kernel_rfl) (by kernel_rfl) (fun w34 hE34 => ?_)))))
          replace hB := hB.ext hE34
          replace hW0 := Wr.trans hW0 (Ext.wr hE34 _)
          replace hEn := Ext.trans hEn hE34
          refine SegS.step rfl rfl (Yd.move rfl) (SegS.step rfl rfl (Yd.move rfl) (SegS.step rfl rfl (Yd.move rfl) (SegS.step rfl rfl (Yd.move rfl) (SegS.step rfl rfl (Yd.move rfl) (SegS.step rfl rfl (Yd.nilCheckP rfl) (SegS.step rfl rfl (Yd.fieldAddr rfl rfl) (SegS.step rfl rfl (Yd.load1 rfl rfl (hB.row _ _ rfl)) ?_)))))))
          refine SegS.step rfl rfl (Yd.subI rfl rfl (by omega)) (SegS.step rfl rfl (Yd.indexStr rfl rfl rfl (NatOf.sub (NatOf.cast _) (NatOf.cast _) (by omega)) (by omega)) (SegS.step rfl rfl (Yd.nilCheckP rfl) (SegS.step rfl rfl (Yd.fieldAddr rfl rfl) (SegS.step rfl rfl (Yd.indexArr1' rfl rfl rfl (NatOf.cast _) (by omega)) (SegS.nil ?_)))))
          refine Seg.store1 rfl rfl rfl rfl rfl hB (by first | omega | (simp; done) | exact Nat.le_of_ble_eq_true rfl) (fun w49 hW49 hB49 => ?_)
          clear hB
          replace hW0 := Wr.trans hW0 hW49
          refine Seg.nil (At.blk (At.then_ (Cd.region (Seg.step rfl rfl (Yd.move rfl) (Seg.step rfl rfl (Yd.addI rfl rfl (by omega)) (Seg.step rfl rfl (Yd.assign rfl) (Seg.nil ?_)))))))
          exact At.round (⟨1, s.getD (0 - X.length) 0, e1⟩ : KpS) (.cons rfl (.cons rfl (.cons rfl (.nil _)))) ⟨⟨by show X.length ≤ 1; omega, by show 1 ≤ _; omega, .inl (Nat.le_succ 1)⟩, hB49, ⟨fun _ => hgd.symm, fun h => absurd h (Nat.lt_irrefl 1)⟩, hW0⟩ (Nat.sub_lt_sub_left hlt.2 (Nat.lt_succ_self 0))
        · exfalso; omega
      · have h0' := h0 (by decide)
        refine Cd.seq (Cd.seq (Cd.region (Seg.step rfl rfl (Yd.move rfl) (Seg.step rfl rfl (Yd.lss rfl rfl) (Seg.step rfl rfl (Yd.move rfl) (Seg.step rfl rfl (Yd.move rfl) (Seg.step rfl rfl (Yd.move rfl) ?_)))))))
        refine Seg.step rfl rfl (Yd.nilCheckP rfl) (Seg.step rfl rfl (Yd.fieldAddr rfl rfl) (Seg.step rfl rfl (Yd.load1 rfl rfl (hB.row _ _ rfl)) (Seg.step rfl rfl (Yd.subI rfl rfl (by omega)) (Seg.step rfl rfl (Yd.move rfl) (Seg.step rfl rfl (Yd.lenStr rfl rfl) (Seg.step rfl rfl (Yd.lss rfl rfl) (Seg.step rfl rfl (Yd.pickT rfl rfl) ?_)))))))
        refine Seg.nil (At.then_ ?_)
        refine Cd.condk rfl (fun h28 => ?_) (fun h28 => ?_)
        · refine Cd.skip (At.then_ (Cd.seq (Cd.block (Cd.still 13 (by kernel_rfl) (by kernel_rfl) (fun w34 hE34 => ?_)))))
          replace hB := hB.ext hE34
          replace hW0 := Wr.trans hW0 (Ext.wr hE34 _)
          replace hEn := Ext.trans hEn hE34
          refine SegS.step rfl rfl (Yd.move rfl) (SegS.step rfl rfl (Yd.move rfl) (SegS.step rfl rfl (Yd.move rfl) (SegS.step rfl rfl (Yd.move rfl) (SegS.step rfl rfl (Yd.move rfl) (SegS.step rfl rfl (Yd.nilCheckP rfl) (SegS.step rfl rfl (Yd.fieldAddr rfl rfl) (SegS.step rfl rfl (Yd.load1 rfl rfl (hB.row _ _ rfl)) ?_)))))))
          refine SegS.step rfl rfl (Yd.subI rfl rfl (by omega)) (SegS.step rfl rfl (Yd.indexStr rfl rfl rfl (NatOf.sub (NatOf.cast _) (NatOf.cast _) (by omega)) (by omega)) (SegS.step rfl rfl (Yd.nilCheckP rfl) (SegS.step rfl rfl (Yd.fieldAddr rfl rfl) (SegS.step rfl rfl (Yd.indexArr1' rfl rfl rfl (NatOf.cast _) (by omega)) (SegS.nil ?_)))))
          refine Seg.store1 rfl rfl rfl rfl rfl hB (by first | omega | (simp; done) | exact Nat.le_of_ble_eq_true rfl) (fun w49 hW49 hB49 => ?_)
          clear hB
          replace hW0 := Wr.trans hW0 hW49
          refine Seg.nil (At.blk (At.then_ (Cd.region (Seg.step rfl rfl (Yd.move rfl) (Seg.step rfl rfl (Yd.addI rfl rfl (by omega)) (Seg.step rfl rfl (Yd.assign rfl) (Seg.nil ?_)))))))
          exact At.round (⟨2, e0, s.getD (1 - X.length) 0⟩ : KpS) (.cons rfl (.cons rfl (.cons rfl (.nil _)))) ⟨⟨by show X.length ≤ 2; omega, by show 2 ≤ _; omega, .inl (Nat.le_refl 2)⟩, hB49, ⟨fun _ => h0', fun _ => hgd.symm⟩, hW0⟩ (Nat.sub_lt_sub_left hlt.2 (Nat.lt_succ_self 1))
        · exfalso; omega
      · omega
    · have hl2 : (s :: l).reverse.flatten = X ++ s := by rw [List.reverse_cons, List.flatten_append, hl]; simp
      have hlX : (X ++ s).length = X.length + s.length := List.length_append
      have hg0 : 0 < (X ++ s).length → e0 = (X ++ s).getD 0 0 := fun h => by rw [← hY]; exact h0 (by omega)
      have hg1 : 1 < (X ++ s).length → e1 = (X ++ s).getD 1 0 := fun h => by rw [← hY]; exact h1 (by omega)
      by_cases hi4 : (i : Int) < 2
      · refine Cd.seq (Cd.seq (Cd.region (Seg.step rfl rfl (Yd.move rfl) (Seg.step rfl rfl (Yd.lss rfl rfl) (Seg.step rfl rfl (Yd.move rfl) ?_)))))
        refine Seg.gsplitp rfl rfl (fun h16 => ?_) (fun h16 => ?_)
        · refine Seg.step rfl rfl (Yd.move rfl) (Seg.step rfl rfl (Yd.move rfl) (Seg.step rfl rfl (Yd.nilCheckP rfl) (Seg.step rfl rfl (Yd.fieldAddr rfl rfl) (Seg.step rfl rfl (Yd.load1 rfl rfl (hB.row _ _ rfl)) (Seg.step rfl rfl (Yd.subI rfl rfl (by omega)) (Seg.step rfl rfl (Yd.move rfl) (Seg.step rfl rfl (Yd.lenStr rfl rfl) ?_)))))))
          refine Seg.step rfl rfl (Yd.lss rfl rfl) (Seg.step rfl rfl (Yd.pickT rfl rfl) (Seg.nil (At.then_ ?_)))
          refine Cd.condk rfl (fun h30 => ?_) (fun h30 => ?_)
          · exfalso; omega
          · refine Cd.exit (At.then_exit (At.then_exit (At.blk_same (At.then_ (Cd.seq (Cd.region (Seg.step rfl rfl (Yd.move rfl) ?_)))))))
            refine Seg.step rfl rfl (Yd.move rfl) (Seg.step rfl rfl (Yd.move rfl) (Seg.step rfl rfl (Yd.nilCheckP rfl) (Seg.step rfl rfl (Yd.fieldAddr rfl rfl) (Seg.step rfl rfl (Yd.load1 rfl rfl (hB.row _ _ rfl)) (Seg.step rfl rfl (Yd.buildT (cs := _ :: _ :: []) 2 rfl rfl rfl rfl rfl) (Seg.box rfl rfl rfl (fun w46 b46 hE46 hB46 hb46 => ?_)))))))
            have hlt46_0 := Nat.lt_of_lt_of_le hB.lt hb46
            replace hB := hB.ext hE46
            replace hW0 := Wr.trans hW0 (Ext.wr hE46 _)
            refine Seg.step rfl rfl (Yd.nilCheckP rfl) (Seg.step rfl rfl (Yd.fieldAddr rfl rfl) ?_)
            refine Seg.store1 rfl rfl rfl rfl rfl hB (by first | omega | (simp; done) | exact Nat.le_of_ble_eq_true rfl) (fun w49 hW49 hB49 => ?_)
            clear hB
            replace hB46 := hB46.wr hW49 (by omega)
            replace hW0 := Wr.trans hW0 hW49
            refine Seg.nil (At.then_ (Cd.region (Seg.step rfl rfl (Yd.move rfl) (Seg.step rfl rfl (Yd.nilCheckP rfl) (Seg.step rfl rfl (Yd.fieldAddr rfl rfl) (Seg.step rfl rfl (Yd.load1 rfl rfl (hB49.row _ _ rfl)) (Seg.step rfl rfl (Yd.move rfl) ?_)))))))
            refine Seg.step rfl rfl (Yd.lenStr rfl rfl) (Seg.step rfl rfl (Yd.addI rfl rfl (by omega)) (Seg.step rfl rfl (Yd.nilCheckP rfl) (Seg.step rfl rfl (Yd.fieldAddr rfl rfl) ?_)))
            refine Seg.store1 rfl rfl rfl rfl rfl hB49 (by first | omega | (simp; done) | exact Nat.le_of_ble_eq_true rfl) (fun w62 hW62 hB62 => ?_)
            clear hB49
            replace hW49 := Wr.trans hW49 hW62
            replace hB46 := hB46.wr hW62 (by omega)
            replace hW0 := Wr.trans hW0 hW62
            refine Seg.nil ?_
            exact At.fin Tryz.results23 .nil ⟨s :: l, ⟨hl2, _, e0, e1, (by rw [hlX]; exact hB62), ⟨_, _, rfl, hB46, PcAt.wr kB rfl hW0 hP⟩, hg0, hg1⟩, hW0⟩
        · exfalso; omega
      · refine Cd.seq (Cd.seq (Cd.region (Seg.step rfl rfl (Yd.move rfl) (Seg.step rfl rfl (Yd.lss rfl rfl) (Seg.step rfl rfl (Yd.move rfl) ?_)))))
        refine Seg.gsplitp rfl rfl (fun h16 => ?_) (fun h16 => ?_)
        · exfalso; omega
        · refine Seg.skip rfl rfl (Seg.skip rfl rfl (Seg.skip rfl rfl (Seg.skip rfl rfl (Seg.skip rfl rfl (Seg.skip rfl rfl (Seg.skip rfl rfl (Seg.skip rfl rfl ?_)))))))
          refine Seg.skip rfl rfl (Seg.step rfl rfl (Yd.pickF rfl rfl) (Seg.nil (At.then_ (Cd.condF rfl (Cd.exit (At.then_exit (At.then_exit ?_)))))))
          refine At.blk_same (At.then_ (Cd.seq (Cd.region (Seg.step rfl rfl (Yd.move rfl) (Seg.step rfl rfl (Yd.move rfl) (Seg.step rfl rfl (Yd.move rfl) (Seg.step rfl rfl (Yd.nilCheckP rfl) ?_)))))))
          refine Seg.step rfl rfl (Yd.fieldAddr rfl rfl) (Seg.step rfl rfl (Yd.load1 rfl rfl (hB.row _ _ rfl)) (Seg.step rfl rfl (Yd.buildT (cs := _ :: _ :: []) 2 rfl rfl rfl rfl rfl) (Seg.box rfl rfl rfl (fun w45 b45 hE45 hB45 hb45 => ?_))))
          have hlt45_0 := Nat.lt_of_lt_of_le hB.lt hb45
          replace hB := hB.ext hE45
          replace hW0 := Wr.trans hW0 (Ext.wr hE45 _)
          refine Seg.step rfl rfl (Yd.nilCheckP rfl) (Seg.step rfl rfl (Yd.fieldAddr rfl rfl) ?_)
          refine Seg.store1 rfl rfl rfl rfl rfl hB (by first | omega | (simp; done) | exact Nat.le_of_ble_eq_true rfl) (fun w48 hW48 hB48 => ?_)
          clear hB
          replace hB45 := hB45.wr hW48 (by omega)
          replace hW0 := Wr.trans hW0 hW48
          refine Seg.nil (At.then_ (Cd.region (Seg.step rfl rfl (Yd.move rfl) (Seg.step rfl rfl (Yd.nilCheckP rfl) (Seg.step rfl rfl (Yd.fieldAddr rfl rfl) (Seg.step rfl rfl (Yd.load1 rfl rfl (hB48.row _ _ rfl)) (Seg.step rfl rfl (Yd.move rfl) ?_)))))))
          refine Seg.step rfl rfl (Yd.lenStr rfl rfl) (Seg.step rfl rfl (Yd.addI rfl rfl (by omega)) (Seg.step rfl rfl (Yd.nilCheckP rfl) (Seg.step rfl rfl (Yd.fieldAddr rfl rfl) ?_)))
          refine Seg.store1 rfl rfl rfl rfl rfl hB48 (by first | omega | (simp; done) | exact Nat.le_of_ble_eq_true rfl) (fun w61 hW61 hB61 => ?_)
          clear hB48
          replace hW48 := Wr.trans hW48 hW61
          replace hB45 := hB45.wr hW61 (by omega)
          replace hW0 := Wr.trans hW0 hW61
          refine Seg.nil ?_
          exact At.fin Tryz.results23 .nil ⟨s :: l, ⟨hl2, _, e0, e1, (by rw [hlX]; exact hB61), ⟨_, _, rfl, hB45, PcAt.wr kB rfl hW0 hP⟩, hg0, hg1⟩, hW0⟩
theorem Yd.slArr {P : Program} [Tys P] {n : Fm} {fr : Fr} {w : World} {T : TypeId} {x : Operand} {p : Addr} {U m e s : Nat} (hU : arOf P U = some (m + 1, e, s)) (hx : Fr.ev fr x = some (.pointer (some p))) :
    Yd P n (.slice U x none none none) T fr w (.slice (some p) (m + 1) (m + 1)) w :=
  .val fun a ha _ _ _ _ => by
    obtain ⟨h2, h3⟩ := und_ar hU
    simp [execOp, Instr.sliceAt, Instr.sliceBounds, run_underlying h2, ha.ev hx, Instr.sureAddr, h3, Addr.add0]
/-- Does X begin with a frame? -/
def whB (X : List UInt8) : Prop := 2 ≤ X.length ∧ deB (X.take 2) + 2 ≤ X.length
instance (X : List UInt8) : Decidable (whB X) := inferInstanceAs (Decidable (_ ∧ _))
theorem take2 {X : List UInt8} (h : 2 ≤ X.length) : X.take 2 = [X.getD 0 0, X.getD 1 0] := by
  rcases X with _ | ⟨a, _ | ⟨b, r⟩⟩
  · simp at h
  · simp at h
  · rfl
theorem swhole_any (X : List UInt8) (l : List (List UInt8)) (j : Nat) (w : World) (hJ : JnAt w j X l) (hX : X.length ≤ 1000000000) :
    Ret Tryz.prog 24 #[.pointer (some ⟨j, 0, none⟩)] w fun v w' => v = .bool (decide (whB X)) ∧ Ext w w' := by
  have hE0 := Ext.refl w
  obtain ⟨hl, v, e0, e1, hB, hP, h0, h1⟩ := hJ
  refine Ret.body Tryz.func24 rfl Tryz.ntmps24 rfl ?_
  by_cases h2 : (2 : Int) ≤ X.length
  · have ht : X.take 2 = [e0, e1] := by rw [h0 (by omega), h1 (by omega)]; exact take2 (by omega)
    have hS : ∀ w', Ext w w' → Sl w' 1 (.slice (some (Addr.add ⟨j, 0, none⟩ 2)) 2 2) [e0, e1].length (bytesV [e0, e1]) := fun w' hw' => ⟨_, _, rfl, rfl, fun a ha => (by cases ha; exact (hB.ext hw').row.part 2 2), fun h => by cases h⟩
    have hd : ∀ k : Nat, k = deB [e0, e1] → decide ((k : Int) ≤ (X.length : Int) - 2) = decide (whB X) := fun k hk => by
      subst hk
      refine decide_eq_decide.2 ?_
      unfold whB
      rw [ht]
      omega
    have hE00 := Ext.refl w
    have hd2 : decide ((2 : Int) ≤ (X.length : Int)) = true := decide_eq_true h2
    refine Cd.seq (Cd.region (Seg.step rfl rfl (Yd.assign rfl) (Seg.nil (At.then_ (Cd.seq (Cd.heldC (Ext w) 20 (by kernel_rfl) (fun w1 hE1 => ?_)))))))
    refine SegC.take 0 rfl (by kernel_rfl) (by kernel_rfl) (by kernel_rfl) (by kernel_rfl) (by kernel_rfl) rfl rfl hE1 (fun w' hw' => Yd.move rfl) (SegC.take 1 rfl (by kernel_rfl) (by kernel_rfl) (by kernel_rfl) (by kernel_rfl) (by kernel_rfl) rfl rfl hE1 (fun w' hw' => Yd.nilCheckP rfl) (SegC.take 2 rfl (by kernel_rfl) (by kernel_rfl) (by kernel_rfl) (by kernel_rfl) (by kernel_rfl) rfl rfl hE1 (fun w' hw' => Yd.fieldAddr rfl rfl) (SegC.take 3 rfl (by kernel_rfl) (by kernel_rfl) (by kernel_rfl) (by kernel_rfl) (by kernel_rfl) rfl rfl hE1 (fun w' hw' => Yd.load1 rfl rfl ((hB.ext hw').row _ _ rfl)) (SegC.take 4 rfl (by kernel_rfl) (by kernel_rfl) (by kernel_rfl) (by kernel_rfl) (by kernel_rfl) rfl rfl hE1 (fun w' hw' => Yd.geq rfl rfl) ?_))))
    rw [hd2]
    refine SegC.take 5 rfl (by kernel_rfl) (by kernel_rfl) (by kernel_rfl) (by kernel_rfl) (by kernel_rfl) rfl rfl hE1 (fun w' hw' => Yd.move rfl) (SegC.take 6 rfl (by kernel_rfl) (by kernel_rfl) (by kernel_rfl) (by kernel_rfl) (by kernel_rfl) rfl rfl hE1 (fun w' hw' => Yd.move rfl) (SegC.take 7 rfl (by kernel_rfl) (by kernel_rfl) (by kernel_rfl) (by kernel_rfl) (by kernel_rfl) rfl rfl hE1 (fun w' hw' => Yd.nilCheckP rfl) (SegC.take 8 rfl (by kernel_rfl) (by kernel_rfl) (by kernel_rfl) (by kernel_rfl) (by kernel_rfl) rfl rfl hE1 (fun w' hw' => Yd.fieldAddr rfl rfl) (SegC.take 9 rfl (by kernel_rfl) (by kernel_rfl) (by kernel_rfl) (by kernel_rfl) (by kernel_rfl) rfl rfl hE1 (fun w' hw' => Yd.load1 rfl rfl ((hB.ext hw').row _ _ rfl)) (SegC.take 10 rfl (by kernel_rfl) (by kernel_rfl) (by kernel_rfl) (by kernel_rfl) (by kernel_rfl) rfl rfl hE1 (fun w' hw' => Yd.subI rfl rfl (by omega)) (SegC.take 11 rfl (by kernel_rfl) (by kernel_rfl) (by kernel_rfl) (by kernel_rfl) (by kernel_rfl) rfl rfl hE1 (fun w' hw' => Yd.move rfl) (SegC.take 12 rfl (by kernel_rfl) (by kernel_rfl) (by kernel_rfl) (by kernel_rfl) (by kernel_rfl) rfl rfl hE1 (fun w' hw' => Yd.nilCheckP rfl) ?_)))))))
    refine SegC.take 13 rfl (by kernel_rfl) (by kernel_rfl) (by kernel_rfl) (by kernel_rfl) (by kernel_rfl) rfl rfl hE1 (fun w' hw' => Yd.fieldAddr rfl rfl) (SegC.take 14 rfl (by kernel_rfl) (by kernel_rfl) (by kernel_rfl) (by kernel_rfl) (by kernel_rfl) rfl rfl hE1 (fun w' hw' => Yd.slArr rfl rfl) (SegC.take 15 rfl (by kernel_rfl) (by kernel_rfl) (by kernel_rfl) (by kernel_rfl) (by kernel_rfl) rfl rfl hE1 (fun w' hw' => Yd.bts (l := [e0, e1]) rfl rfl rfl rfl (hS _ hw')) (SegC.oneSeg (o := ⟨_, _, _, _, _, _⟩) 16 rfl (by kernel_rfl) (Seg.call rfl rfl (own_of rfl) rfl (enew_any [e0, e1] _) ?_))))
    rintro _ w2 ⟨⟨b2, rfl, hb2, hB2⟩, hE2⟩
    have hE2 := Ext.trans hE1 hE2
    have hb2 := Nat.le_trans (Below.size hE1) hb2
    refine Seg.nil (At.backC rfl hE2 ?_)
    refine SegC.oneSeg (o := ⟨_, _, _, _, _, _⟩) 17 rfl (by kernel_rfl) (Seg.call rfl rfl (own_of rfl) rfl (enum_any [e0, e1] _ 2 _ hB2 (Nat.le_refl 2) (by decide)) ?_)
    rintro _ w3 ⟨rfl, hW3, hB3⟩
    have hE3 := Ext.wr' hE2 hW3 hb2
    refine Seg.nil (At.backC rfl hE3 ?_)
    refine SegC.take 18 rfl (by kernel_rfl) (by kernel_rfl) (by kernel_rfl) (by kernel_rfl) (by kernel_rfl) rfl rfl hE3 (fun w' hw' => Yd.geq rfl rfl) ?_
    rw [hd (deB ([e0, e1].take 2)) rfl]
    refine SegC.take 19 rfl (by kernel_rfl) (by kernel_rfl) (by kernel_rfl) (by kernel_rfl) (by kernel_rfl) rfl rfl hE3 (fun w' hw' => Yd.pickT rfl rfl) (SegC.oneSeg (o := ⟨_, _, _, _, _, _⟩) 20 rfl (by kernel_rfl) (Seg.step rfl rfl (Yd.assign rfl) (Seg.nil (At.endC rfl (SegA.done (by kernel_rfl) ?_)))))
    refine At.then_ (Cd.ret ?_)
    exact At.ret Tryz.results24 (.tmp rfl .nil) ⟨rfl, hE3⟩
  · have hw : decide (whB X) = false := decide_eq_false (fun h => h2 (by have := h.1; omega))
    have hd2 : decide ((2 : Int) ≤ (X.length : Int)) = false := decide_eq_false h2
    rw [hw]
    refine Cd.seq (Cd.region (Seg.step rfl rfl (Yd.assign rfl) (Seg.nil (At.then_ (Cd.seq (Cd.heldC (Ext w) 20 (by kernel_rfl) (fun w1 hE1 => ?_)))))))
    refine SegC.take 0 rfl (by kernel_rfl) (by kernel_rfl) (by kernel_rfl) (by kernel_rfl) (by kernel_rfl) rfl rfl hE1 (fun w' hw' => Yd.move rfl) (SegC.take 1 rfl (by kernel_rfl) (by kernel_rfl) (by kernel_rfl) (by kernel_rfl) (by kernel_rfl) rfl rfl hE1 (fun w' hw' => Yd.nilCheckP rfl) (SegC.take 2 rfl (by kernel_rfl) (by kernel_rfl) (by kernel_rfl) (by kernel_rfl) (by kernel_rfl) rfl rfl hE1 (fun w' hw' => Yd.fieldAddr rfl rfl) (SegC.take 3 rfl (by kernel_rfl) (by kernel_rfl) (by kernel_rfl) (by kernel_rfl) (by kernel_rfl) rfl rfl hE1 (fun w' hw' => Yd.load1 rfl rfl ((hB.ext hw').row _ _ rfl)) (SegC.take 4 rfl (by kernel_rfl) (by kernel_rfl) (by kernel_rfl) (by kernel_rfl) (by kernel_rfl) rfl rfl hE1 (fun w' hw' => Yd.geq rfl rfl) ?_))))
    rw [hd2]
    refine SegC.take 5 rfl (by kernel_rfl) (by kernel_rfl) (by kernel_rfl) (by kernel_rfl) (by kernel_rfl) rfl rfl hE1 (fun w' hw' => Yd.move rfl) (SegC.skip 6 rfl (by kernel_rfl) (by kernel_rfl) (by kernel_rfl) (by kernel_rfl) (by kernel_rfl) rfl rfl hE1 (SegC.skip 7 rfl (by kernel_rfl) (by kernel_rfl) (by kernel_rfl) (by kernel_rfl) (by kernel_rfl) rfl rfl hE1 (SegC.skip 8 rfl (by kernel_rfl) (by kernel_rfl) (by kernel_rfl) (by kernel_rfl) (by kernel_rfl) rfl rfl hE1 (SegC.skip 9 rfl (by kernel_rfl) (by kernel_rfl) (by kernel_rfl) (by kernel_rfl) (by kernel_rfl) rfl rfl hE1 (SegC.skip 10 rfl (by kernel_rfl) (by kernel_rfl) (by kernel_rfl) (by kernel_rfl) (by kernel_rfl) rfl rfl hE1 (SegC.skip 11 rfl (by kernel_rfl) (by kernel_rfl) (by kernel_rfl) (by kernel_rfl) (by kernel_rfl) rfl rfl hE1 (SegC.skip 12 rfl (by kernel_rfl) (by kernel_rfl) (by kernel_rfl) (by kernel_rfl) (by kernel_rfl) rfl rfl hE1 ?_)))))))
    refine SegC.skip 13 rfl (by kernel_rfl) (by kernel_rfl) (by kernel_rfl) (by kernel_rfl) (by kernel_rfl) rfl rfl hE1 (SegC.skip 14 rfl (by kernel_rfl) (by kernel_rfl) (by kernel_rfl) (by kernel_rfl) (by kernel_rfl) rfl rfl hE1 (SegC.skip 15 rfl (by kernel_rfl) (by kernel_rfl) (by kernel_rfl) (by kernel_rfl) (by kernel_rfl) rfl rfl hE1 (SegC.skip 16 rfl (by kernel_rfl) (by kernel_rfl) (by kernel_rfl) (by kernel_rfl) (by kernel_rfl) rfl rfl hE1 (SegC.skip 17 rfl (by kernel_rfl) (by kernel_rfl) (by kernel_rfl) (by kernel_rfl) (by kernel_rfl) rfl rfl hE1 (SegC.skip 18 rfl (by kernel_rfl) (by kernel_rfl) (by kernel_rfl) (by kernel_rfl) (by kernel_rfl) rfl rfl hE1 (SegC.take 19 rfl (by kernel_rfl) (by kernel_rfl) (by kernel_rfl) (by kernel_rfl) (by kernel_rfl) rfl rfl hE1 (fun w' hw' => Yd.pickF rfl rfl) (SegC.oneSeg (o := ⟨_, _, _, _, _, _⟩) 20 rfl (by kernel_rfl) ?_)))))))
    refine Seg.step rfl rfl (Yd.assign rfl) (Seg.nil (At.endC rfl (SegA.done (by kernel_rfl) ?_)))
    refine At.then_ (Cd.ret ?_)
    exact At.ret Tryz.results24 (.tmp rfl .nil) ⟨rfl, hE1⟩
section
variable {P : Program} [Tys P] {n : Fm} {ops : Array Oper} {Q : Exit → Act → World → Prop} {fr : Fr} {w : World} {T : TypeId}
theorem run_copyS {U U' e by' g lo m cap : Nat} {cur : List Value} {s : List UInt8} (hU : slOf P U = some (e, 1)) (hby : byOf P e = some by') (hsz : szOf P e = some 1) (hB : Bx w g cur) (h1 : lo + s.length ≤ m) (h2 : m ≤ cur.length) (h3 : m ≤ cap) :
    ∃ w1 : World, (Builtin.copy_ #[U, U'] T #[sliced (some ⟨g, 0, none⟩) lo m cap 1, .string ⟨s.toArray⟩]).run P w = .ok (.int .i64 (s.length : Nat)) w1 ∧ Wr g w w1 ∧ Bx w1 g (cur.take lo ++ bytesV s ++ cur.drop (lo + s.length)) := by
  obtain ⟨hund, _⟩ := und_sl hU
  obtain ⟨i, hi, _, his⟩ := run_inf hby hsz
  have hinf : (P.info? e).map (·.size) = some 1 := by rw [info_of_run hi]; simp [his]
  by_cases h0 : s = []
  · subst h0
    refine ⟨w, ?_, (Ext.refl w).wr g, ?_⟩
    · exact Lib.run_copy_empty_string w U U' T e _ _ _ _ hund (by rw [info_of_run hi]; rfl) rfl
    · have e1 : cur.take lo ++ bytesV [] ++ cur.drop (lo + 0) = cur := by simp [bytesV]
      show Bx w g (cur.take lo ++ bytesV [] ++ cur.drop (lo + 0))
      rw [e1]; exact hB
  · have hs : 0 < s.length := List.length_pos_iff.2 h0
    obtain ⟨t, hB⟩ := hB
    have e1 : sliced (some ⟨g, 0, none⟩) lo m cap 1 = .slice (some ⟨g, lo, none⟩) (m - lo) (cap - lo) := by
      unfold sliced
      rw [if_neg (by omega)]
      show Value.slice (some (Addr.add ⟨g, 0, none⟩ _)) _ _ = _
      rw [addr_lit, Nat.mul_one]
    rw [e1]
    have hrun := Lib.run_copy_row_string (P := P) w U U' T e g lo (m - lo) (cap - lo) ⟨s.toArray⟩ cur.toArray t hund hinf hB (by show s.length ≤ _; omega) (by show _ + s.length ≤ _; rw [List.size_toArray]; omega)
    refine ⟨_, hrun, ⟨rfl, rfl, rfl, by simp, fun k _ hne => setRow_other w g k _ (fun e => hne (by rw [e]))⟩, ?_⟩
    refine ⟨t, ?_⟩
    rw [setRow_heap w g _ _ t _ hB]
    rfl
end
structure EyS where
  l : List (List UInt8)
  v : Value
  A : List UInt8
  D : List UInt8
theorem sempty_any (X : List UInt8) (l : List (List UInt8)) (j : Nat) (w : World) (hJ : JnAt w j X l) (hX : X.length ≤ 1000000) :
    Ret Tryz.prog 25 #[.pointer (some ⟨j, 0, none⟩)] w fun v w' => v = .string ⟨X.toArray⟩ ∧ JnAt w' j [] [] ∧ Wr j w w' := by
  have hE0 := Ext.refl w
  obtain ⟨hl, v, e0, e1, hB, hP, h0, h1⟩ := hJ
  obtain ⟨po, rfl⟩ := hP.ptr
  refine Ret.body Tryz.func25 rfl Tryz.ntmps25 rfl (Cd.seq (Cd.region (Seg.step rfl rfl (Yd.assign rfl) (Seg.nil (At.then_ (Cd.seq (Cd.region ?_)))))))
  refine Seg.step rfl rfl (Yd.move rfl) (Seg.step rfl rfl (Yd.nilCheckP rfl) (Seg.step rfl rfl (Yd.fieldAddr rfl rfl) (Seg.step rfl rfl (Yd.load1 rfl rfl (hB.row _ _ rfl)) (Seg.makeN (m := X.length) rfl rfl rfl rfl rfl rfl rfl rfl rfl ⟨hX, by decide⟩ (fun w1 b hE1 hB1 hb => ?_)))))
  rw [show reps X.length (zcells _) = List.replicate X.length (Value.int .u8 0) from rep_one _ _] at hB1
  have hBj := hB.ext hE1
  have hbj : b ≠ j := by have := hB.lt; omega
  have hE0 := Ext.trans hE0 hE1
  have kP : Keep (PcAt w (.pointer po) l) := hP
  clear hP hB hE1
  refine Seg.step rfl rfl (Yd.assign rfl) (Seg.nil (At.then_ (Cd.seq (Cd.region (Seg.step rfl rfl (Yd.move rfl) (Seg.step rfl rfl (Yd.nilCheckP rfl) (Seg.step rfl rfl (Yd.fieldAddr rfl rfl) ?_)))))))
  refine Seg.step rfl rfl (Yd.load1 rfl rfl (hBj.row _ _ rfl)) (Seg.step rfl rfl (Yd.assign rfl) (Seg.nil (At.then_ (Cd.seq (Cd.seq (Cd.region (Seg.step rfl rfl (Yd.move rfl) ?_)))))))
  refine Seg.step rfl rfl (Yd.nilCheckP rfl) (Seg.step rfl rfl (Yd.fieldAddr rfl rfl) (Seg.step rfl rfl (Yd.load1 rfl rfl (hBj.row _ _ rfl)) (Seg.step rfl rfl (Yd.assign rfl) (Seg.nil (At.then_ (Cd.block ?_))))))
  refine Cd.loop (σ := EyS) (fun t => [(0, .pointer (some ⟨j, 0, none⟩)), (3, .slice (some ⟨b, 0, none⟩) X.length X.length), (4, .int .i64 (t.A.length : Nat)), (5, t.v)])
    (fun t w' => (t.l.reverse.flatten = t.A ∧ t.A ++ t.D = X) ∧ Keep (PcAt w t.v t.l) ∧ Bx w' b (List.replicate t.A.length (Value.int .u8 0) ++ bytesV t.D) ∧ Bx w' j [.pointer po, .int .i64 (X.length : Nat), .int .u8 e0.toNat, .int .u8 e1.toNat] ∧ Ext w w') (fun t => t.l.length)
    ⟨l, .pointer po, X, []⟩ (.cons rfl (.cons rfl (.cons rfl (.cons rfl (.nil _))))) ⟨⟨hl, List.append_nil X⟩, kP, by simpa [bytesV] using hB1, by assumption, hE0⟩ ?_
  clear hE0 hB1 hBj kP
  rintro ⟨l, v, A, D⟩ w2 ⟨⟨hlA, hAD⟩, hP2, hB2, hBj, hE2⟩
  simp only at hlA hAD hP2 hB2 ⊢
  have hXl : X.length = A.length + D.length := by rw [← hAD, List.length_append]
  cases l with
  | nil =>
    have hA : A = [] := by rw [← hlA]; rfl
    subst hA
    simp only [List.nil_append] at hAD
    subst hAD
    cases hP2
    refine Cd.seq (Cd.seq (Cd.region (Seg.step rfl rfl (Yd.move rfl) (Seg.step rfl rfl (Yd.neqNilP rfl rfl rfl) (Seg.nil (At.then_ (Cd.condF rfl ?_)))))))
    refine Cd.exit (At.then_exit (At.then_exit (At.blk_same (At.then_ (Cd.seq (Cd.region (Seg.step rfl rfl (Yd.move rfl) ?_)))))))
    refine Seg.step rfl rfl (Yd.buildT (cs := _ :: _ :: _ :: _ :: []) 4 rfl rfl rfl rfl rfl) (Seg.step rfl rfl (Yd.nilCheckP rfl) (Seg.storeN rfl rfl rfl rfl hBj rfl (by first | assumption | exact List.all_eq_true.1 rfl) (fun w21 hW21 hB21 => ?_)))
    clear hBj
    replace hB2 := hB2.wr hW21 (by omega)
    refine Seg.nil (At.then_ (Cd.seq (Cd.region (Seg.step rfl rfl (Yd.move rfl) (Seg.step rfl rfl (Yd.bts (l := D) rfl rfl rfl rfl ((show Bx _ b (bytesV D) from hB2).sl (by rw [bytesV_length, Nat.mul_one]) D.length)) (Seg.step rfl rfl (Yd.assign rfl) (Seg.nil ?_)))))))
    refine At.then_ (Cd.ret ?_)
    exact At.ret Tryz.results25 (.tmp rfl .nil) ⟨rfl, ⟨rfl, .pointer none, 0, 0, hB21, rfl, fun h => absurd h (Nat.lt_irrefl 0), fun h => absurd h (Nat.not_lt_zero 1)⟩, Wr.trans (Ext.wr (by assumption : Ext w w2) j) hW21⟩
  | cons t r =>
    obtain ⟨bp, v', rfl, hBp, hP2⟩ := hP2
    obtain ⟨A', hA'⟩ : ∃ A', r.reverse.flatten = A' := ⟨_, rfl⟩
    have hAt : A = A' ++ t := by rw [← hlA, List.reverse_cons, List.flatten_append, hA']; simp
    have hAl : A.length = A'.length + t.length := by rw [hAt, List.length_append]
    have hlo : A.length - t.length = A'.length := by omega
    have hbt := bytesV_length
    have hcut : (List.replicate A.length (Value.int .u8 0) ++ bytesV D).take (A.length - t.length) ++ bytesV t ++ (List.replicate A.length (Value.int .u8 0) ++ bytesV D).drop (A.length - t.length + t.length) = List.replicate A'.length (Value.int .u8 0) ++ bytesV (t ++ D) := by
      rw [hlo, ← hAl, bytesV_append, List.take_append_of_le_length (by rw [List.length_replicate]; omega), List.take_replicate, Nat.min_eq_left (by omega), List.drop_append, List.drop_of_length_le (by rw [List.length_replicate]; exact Nat.le_refl _), List.length_replicate, Nat.sub_self, List.drop_zero, List.nil_append, List.append_assoc]
    have hAt' : (A.length : Int) - (t.length : Int) = (A'.length : Int) := by omega
    have hkr : Keep (PcAt w v' r) := hP2
    have hbpe : bp ≠ b := by have := hBp.lt; omega
    have hBp2 := hBp.ext hE2
    clear hP2 hBp
    refine Cd.seq (Cd.seq (Cd.region (Seg.step rfl rfl (Yd.move rfl) (Seg.step rfl rfl (Yd.neqNilP rfl rfl rfl) (Seg.nil (At.then_ (Cd.condT rfl ?_)))))))
    refine Cd.skip (At.then_ (Cd.seq (Cd.block (Cd.seq (Cd.region (Seg.step rfl rfl (Yd.move rfl) (Seg.step rfl rfl (Yd.move rfl) ?_)))))))
    refine Seg.step rfl rfl (Yd.nilCheckP rfl) (Seg.step rfl rfl (Yd.fieldAddr rfl rfl) (Seg.step rfl rfl (Yd.load1 rfl rfl (hBp2.row _ _ rfl)) (Seg.step rfl rfl (Yd.lenStr rfl rfl) (Seg.step rfl rfl (Yd.subI rfl rfl (by omega)) (Seg.step rfl rfl (Yd.assign rfl) (Seg.nil (At.then_ ?_)))))))
    refine Cd.still 7 (by kernel_rfl) (by kernel_rfl) (fun w27 hE27 => ?_)
    replace hB2 := hB2.ext hE27
    replace hBj := hBj.ext hE27
    replace hE2 := Ext.trans hE2 hE27
    replace hBp2 := hBp2.ext hE27
    refine SegS.step rfl rfl (Yd.move rfl) (SegS.step rfl rfl (Yd.move rfl) (SegS.step rfl rfl (Yd.slSlL rfl rfl rfl (NatOf.sub (NatOf.cast _) (NatOf.cast _) (by omega)) (by omega)) (SegS.step rfl rfl (Yd.move rfl) (SegS.step rfl rfl (Yd.nilCheckP rfl) (SegS.step rfl rfl (Yd.fieldAddr rfl rfl) (SegS.step rfl rfl (Yd.load1 rfl rfl (hBp2.row _ _ rfl)) (SegS.nil ?_)))))))
    obtain ⟨w3, hr3, hW3, hB3⟩ := run_copyS (P := Tryz.prog) (T := 3) (U := 61) (U' := 9) (lo := A.length - t.length) (m := X.length) (cap := X.length) (s := t) rfl rfl rfl hB2 (by omega) (by rw [List.length_append, List.length_replicate, hbt]; omega) (Nat.le_refl _)
    refine Seg.step rfl rfl (Yd.of_run rfl rfl hr3) ?_
    rw [hcut] at hB3
    have hBp3 := hBp2.wr hW3 hbpe
    have hBj3 := hBj.wr hW3 (Ne.symm hbj)
    have hE3 := Ext.wr' hE2 hW3 hb
    rw [hAt']
    clear hB2 hBp2 hBj hE2 hW3
    refine Seg.nil (At.blk (At.then_ (Cd.region (Seg.step rfl rfl (Yd.move rfl) (Seg.step rfl rfl (Yd.nilCheckP rfl) (Seg.step rfl rfl (Yd.fieldAddr rfl rfl) (Seg.step rfl rfl (Yd.load1 rfl rfl (hBp3.row _ _ rfl)) ?_)))))))
    refine Seg.step rfl rfl (Yd.assign rfl) (Seg.nil ?_)
    exact At.round (⟨r, v', A', t ++ D⟩ : EyS) (.cons rfl (.cons rfl (.cons rfl (.cons rfl (.nil _))))) ⟨⟨hA', by rw [← hAD, hAt, List.append_assoc]⟩, hkr, by assumption, by assumption, by assumption⟩ (Nat.lt_succ_self _)
theorem sput_any (s : List UInt8) (w : World) (hs : s.length ≤ 65535) : Ret Tryz.prog 7 #[.string ⟨s.toArray⟩] w fun v w' => v = .tuple #[.string ⟨(beB 2 s.length ++ s).toArray⟩, .int .i64 0] ∧ Ext w w' := by
  have hE0 := Ext.refl w
  refine Ret.body Tryz.func7 rfl Tryz.ntmps7 rfl ?_
  have hb2 := beB_len 2 s.length
  refine Cd.seq (Cd.region (Seg.step rfl rfl (Yd.assign rfl) (Seg.step rfl rfl (Yd.assign rfl) (Seg.nil (At.then_ (Cd.seq (Cd.seq ?_)))))))
  refine Cd.region (Seg.step rfl rfl (Yd.move rfl) (Seg.step rfl rfl (Yd.lenStr rfl rfl) (Seg.step rfl rfl (Yd.gtr rfl rfl) (Seg.nil (At.then_ ?_)))))
  refine Cd.condk rfl (fun h17 => ?_) (fun h17 => ?_)
  · exfalso; omega
  · refine Cd.skip (At.then_ (Cd.seq (Cd.region (Seg.step rfl rfl (Yd.move rfl) (Seg.step rfl rfl (Yd.lenStr rfl rfl) ?_)))))
    (refine Seg.call rfl rfl (own_of rfl) rfl (oput_any 2 s.length _ (by decide) (by omega)) ?_; rintro _ w25 ⟨rfl, hE25⟩)
    replace hE0 := Ext.trans hE0 hE25
    refine Seg.step rfl rfl (Yd.move rfl) (Seg.step rfl rfl (Yd.addS rfl rfl (by omega)) (Seg.step rfl rfl (Yd.assign rfl) (Seg.step rfl rfl (Yd.assign rfl) (Seg.nil (At.then_ (Cd.ret ?_))))))
    exact At.ret Tryz.results7 (.tmp rfl (.tmp rfl .nil)) ⟨rfl, by assumption⟩
theorem sclone_any (s : List UInt8) (w : World) (hs : s.length ≤ 1000000) : Ret Tryz.prog 28 #[.string ⟨s.toArray⟩] w fun v w' => v = .string ⟨s.toArray⟩ ∧ Ext w w' := by
  have hE0 := Ext.refl w
  refine Ret.body Tryz.func28 rfl Tryz.ntmps28 rfl ?_
  have hlit : ∀ w1, Ret Tryz.prog 52 #[.string ⟨s.toArray⟩] w1 fun v w' => v = .string ⟨s.toArray⟩ ∧ Ext w1 w' := fun w1 =>
    (Sh.stringslite_Clone ⟨s.toArray⟩ w1 (by show s.length ≤ _; omega)).mono fun e w' ⟨he, hw⟩ => ⟨_, he, rfl, hw⟩
  refine Cd.seq (Cd.region (Seg.step rfl rfl (Yd.assign rfl) (Seg.nil (At.then_ (Cd.seq (Cd.region (Seg.step rfl rfl (Yd.move rfl) ?_)))))))
  (refine Seg.call rfl rfl (own_of rfl) rfl (hlit _) ?_; rintro _ w9 ⟨rfl, hE9⟩)
  replace hE0 := Ext.trans hE0 hE9
  refine Seg.step rfl rfl (Yd.assign rfl) (Seg.nil (At.then_ (Cd.ret ?_)))
  exact At.ret Tryz.results28 (.tmp rfl .nil) ⟨rfl, by assumption⟩
/-- The frames that X begins with, and what is left. -/
def frsF : Nat → List UInt8 → List (List UInt8) × List UInt8
  | 0, X => ([], X)
  | f + 1, X => if whB X then ((X.drop 2).take (deB (X.take 2)) :: (frsF f (X.drop (2 + deB (X.take 2)))).1, (frsF f (X.drop (2 + deB (X.take 2)))).2) else ([], X)
def frs (X : List UInt8) : List (List UInt8) × List UInt8 := frsF X.length X
theorem frsF_no {X : List UInt8} (h : ¬ whB X) (f : Nat) : frsF f X = ([], X) := by
  cases f with
  | zero => rfl
  | succ f => unfold frsF; rw [if_neg h]
theorem JnAt.ext {w w' : World} {j : Nat} {X : List UInt8} {l : List (List UInt8)} (h : JnAt w j X l) (hE : Ext w w') : JnAt w' j X l := by
  obtain ⟨a, v, e0, e1, b, c, d⟩ := h
  exact ⟨a, v, e0, e1, b.ext hE, c.ext hE, d⟩
theorem own_noblk {w : World} {base e k m j : Nat} {v : Value} {cs : List Value} (h : w.ownsRow base e k v m cs) (hj : j < base) : v.ownBlock ≠ some j := fun e => by
  rcases h.2 with ⟨rfl, _⟩ | ⟨g, cap, cur, rfl, hb, _⟩
  · cases e
  · have e2 : g = j := Option.some.inj e
    omega
theorem own_sloff {w : World} {base e k m j : Nat} {v : Value} {cs : List Value} (h : w.ownsRow base e k v m cs) (hj : j < base) : SlOff j v := fun p m' c hv _ => by
  rcases h.2 with ⟨rfl, _⟩ | ⟨g, cap, cur, rfl, hb, _⟩
  · cases hv
  · cases hv; show g ≠ j; omega
structure FdS where
  f : Nat
  L : List (List UInt8)
  R : List UInt8
  v : Value
theorem sfeed_any (X s : List UInt8) (l : List (List UInt8)) (j : Nat) (w : World) (hJ : JnAt w j X l) (hX : X.length + s.length ≤ 1000000) :
    Ret Tryz.prog 8 #[.pointer (some ⟨j, 0, none⟩), .string ⟨s.toArray⟩] w fun v w' => NameAt w' v (frs (X ++ s)).1 ∧ SlOff j v ∧ (∃ l', JnAt w' j (frs (X ++ s)).2 l') ∧ Wr j w w' := by
  have hE0 := Ext.refl w
  have hW0 := Ext.wr hE0 j
  have hjw : j < w.heap.size := by obtain ⟨_, v, e0, e1, hB, _⟩ := hJ; exact hB.lt
  have hYl : (X ++ s).length ≤ 1000000 := by rw [List.length_append]; exact hX
  refine Ret.body Tryz.func8 rfl Tryz.ntmps8 rfl ?_
  by_cases hw : whB (X ++ s)
  · have hwt : decide (whB (X ++ s)) = true := decide_eq_true hw
    refine Cd.seq (Cd.region (Seg.step rfl rfl (Yd.assign rfl) (Seg.nil (At.then_ (Cd.seq (Cd.seq (Cd.region ?_)))))))
    refine Seg.step rfl rfl (Yd.move rfl) (Seg.step rfl rfl (Yd.eqlNilP rfl rfl rfl) (Seg.nil (At.then_ (Cd.condF rfl (Cd.skip (At.then_ (Cd.seq ?_)))))))
    refine Cd.region (Seg.step rfl rfl (Yd.move rfl) (Seg.step rfl rfl (Yd.move rfl) ?_))
    (refine Seg.call rfl rfl (own_of rfl) rfl (skeep_any X s l j _ hJ (by omega) (by omega)) ?_; rintro _ w20 ⟨l2, hJ2, hW2⟩; have hE2 := Ext.refl w20; clear hE0)
    refine Seg.nil (At.then_ (Cd.seq (Cd.seq (Cd.region (Seg.step rfl rfl (Yd.move rfl) ?_)))))
    (refine Seg.call rfl rfl (own_of rfl) rfl (swhole_any (X ++ s) l2 j _ hJ2 (by omega)) ?_; rw [hwt]; rintro _ w27 ⟨rfl, hE27⟩; have hJ3 := JnAt.ext hJ2 hE27)
    replace hJ2 := hJ2.ext hE27
    replace hW2 := Wr.trans hW2 (Ext.wr hE27 _)
    replace hE2 := Ext.trans hE2 hE27
    refine Seg.step rfl rfl (Yd.not rfl) (Seg.nil (At.then_ (Cd.condF rfl (Cd.skip (At.then_ (Cd.seq (Cd.region ?_)))))))
    refine Seg.step rfl rfl (Yd.assign rfl) (Seg.nil (At.then_ (Cd.seq (Cd.region (Seg.step rfl rfl (Yd.move rfl) (Seg.call rfl rfl (own_of rfl) rfl (sempty_any (X ++ s) l2 j _ hJ3 hYl) ?_))))))
    rintro _ w4 ⟨rfl, hJ4, hW4⟩
    have kW4 : Keep (Wr j w w4) := Wr.trans (by assumption) hW4
    have kJ : Keep (JnAt w4 j [] []) := hJ4
    have hjb : j < w4.heap.size := Nat.lt_of_lt_of_le hjw (show Wr j w w4 from kW4).size
    have hE4 := Ext.refl w4
    clear hJ3 hJ2 hJ4 hW4 hW2 hE2 hW0 hJ
    refine Seg.step rfl rfl (Yd.assign rfl) (Seg.nil (At.then_ (Cd.seq (Cd.block ?_))))
    refine Cd.loop (σ := FdS) (fun t => [(0, .pointer (some ⟨j, 0, none⟩)), (5, t.v), (6, .string ⟨t.R.toArray⟩)])
      (fun t w' => (t.L ++ (frsF t.f t.R).1 = (frs (X ++ s)).1 ∧ (frsF t.f t.R).2 = (frs (X ++ s)).2 ∧ t.R.length ≤ t.f ∧ t.L.length + t.R.length ≤ 1000000) ∧ OwnS w' w4.heap.size t.v t.L ∧ Ext w4 w') (fun t => t.f) ⟨(X ++ s).length, [], X ++ s, .slice none 0 0⟩ (.cons rfl (.cons rfl (.cons rfl (.nil _))))
      ⟨⟨rfl, rfl, Nat.le_refl _, by show 0 + (X ++ s).length ≤ 1000000; omega⟩, World.ownsRow_nil _ _ _ _, hE4⟩ ?_
    clear hE4
    rintro ⟨f, L, R, v⟩ w5 ⟨⟨hL, hR2, hf, hlen⟩, hO, hE5⟩
    simp only at hL hR2 hf hlen hO ⊢
    have kO : Keep (OwnS w5 w4.heap.size v L) := hO
    have kE5 : Keep (Ext w4 w5) := hE5
    obtain ⟨va, vc, rfl, _, _, _⟩ := own_sl hO
    have hEn := Ext.refl w5
    clear hO
    by_cases h2 : (2 : Int) ≤ R.length
    · have hn0 := deB_lt (R.take 2)
      have hn1 : deB (R.take 2) < 65536 := by rw [List.length_take, Nat.min_eq_left (by omega)] at hn0; exact hn0
      obtain ⟨n, hn⟩ : ∃ n, n = deB (R.take 2) := ⟨_, rfl⟩
      rw [← hn] at hn1
      by_cases hwR : whB R
      · have hwl := hwR.2
        rw [← hn] at hwl
        obtain ⟨f, rfl⟩ : ∃ g, f = g + 1 := ⟨f - 1, by omega⟩
        have hfs : frsF (f + 1) R = ((R.drop 2).take n :: (frsF f (R.drop (2 + n))).1, (frsF f (R.drop (2 + n))).2) := by
          conv => lhs; unfold frsF
          rw [if_pos hwR, ← hn]
        have hno : NatOf (2 + (n : Int)) (2 + n) := by unfold NatOf; omega
        have hdt : (R.take (2 + n)).drop 2 = (R.drop 2).take n := by rw [List.drop_take]; congr 1; omega
        rw [hfs] at hL hR2
        refine Cd.seq (Cd.seq (Cd.region (Seg.step rfl rfl (Yd.move rfl) (Seg.step rfl rfl (Yd.lenStr rfl rfl) (Seg.step rfl rfl (Yd.geq rfl rfl) (Seg.nil (At.then_ ?_)))))))
        refine Cd.condk rfl (fun h36 => ?_) (fun h36 => ?_)
        · refine Cd.skip (At.then_ (Cd.block (Cd.seq (Cd.region (Seg.step rfl rfl (Yd.move rfl) ?_)))))
          (refine Seg.call rfl rfl (own_of rfl) rfl (enew_any R _) ?_; rintro _ w44 ⟨⟨b44, rfl, hb44, hB44⟩, hE44⟩; have hBn := hB44; have hbn := Nat.le_trans (Below.size hEn) hb44)
          have hlt44_0 := Nat.le_trans hE5.size hb44
          have hlt44_1 := Nat.le_trans hEn.size hb44
          replace hE5 := Ext.trans hE5 hE44
          replace hEn := Ext.trans hEn hE44
          (refine Seg.call rfl rfl (own_of rfl) rfl (enum_any R _ 2 _ hBn (by omega) (by decide)) ?_; rw [← hn]; rintro _ w45 ⟨rfl, hW45, hB45⟩; have hEm := Ext.wr' hEn hW45 hbn; clear hEn; have hEn := hEm; clear hEm)
          replace hE44 := Ext.wr' hE44 hW45 (by omega)
          replace hE5 := Ext.wr' hE5 hW45 (by omega)
          refine Seg.step rfl rfl (Yd.assign rfl) (Seg.nil (At.then_ (Cd.seq (Cd.seq (Cd.region (Seg.step rfl rfl (Yd.move rfl) (Seg.step rfl rfl (Yd.move rfl) ?_)))))))
          refine Seg.step rfl rfl (Yd.lenStr rfl rfl) (Seg.step rfl rfl (Yd.subI rfl rfl (by omega)) (Seg.step rfl rfl (Yd.gtr rfl rfl) (Seg.nil (At.then_ ?_))))
          refine Cd.condk rfl (fun h59 => ?_) (fun h59 => ?_)
          · exfalso; omega
          · refine Cd.skip (At.then_ (Cd.seq (Cd.region (Seg.step rfl rfl (Yd.move rfl) (Seg.step rfl rfl (Yd.move rfl) (Seg.step rfl rfl (Yd.move rfl) (Seg.step rfl rfl (Yd.addI rfl rfl (by omega)) ?_)))))))
            refine Seg.step rfl rfl (Yd.slStr rfl rfl rfl rfl (NatOf.cast 2) (NatOf.add (NatOf.cast 2) (NatOf.cast _)) (by omega) (by omega)) (Seg.buildSliceV rfl rfl rfl rfl rfl rfl rfl rfl rfl rfl (fun w70 b70 hE70 hB70 hb70 hO70 => ?_))
            have hlt70_0 := Nat.lt_of_lt_of_le hB45.lt hb70
            have hlt70_1 := Nat.le_trans hEn.size hb70
            have hlt70_2 := Nat.le_trans hE44.size hb70
            have hlt70_3 := Nat.le_trans hE5.size hb70
            replace hW45 := Wr.trans hW45 (Ext.wr hE70 _)
            replace hB45 := hB45.ext hE70
            replace hEn := Ext.trans hEn hE70
            replace hE44 := Ext.trans hE44 hE70
            replace hE5 := Ext.trans hE5 hE70
            (refine Seg.appS (m := [(R.take (2 + n)).drop 2]) rfl rfl rfl rfl rfl (own_ext kO hEn) (own_sl (by assumption)) (Below.size (Ext.trans kE5 hEn)) (by show _ + 1 ≤ _; omega) (fun v71 w71 hO71 hG71 hX71 hS71 hA71 => ?_); rw [hdt] at hO71; have kO2 : Keep (OwnS w71 w4.heap.size v71 (L ++ [(R.drop 2).take n])) := hO71; have kE6 : Keep (Ext w4 w71) := hX71 _ (Ext.trans kE5 hEn) (Nat.le_refl _); have hEz := Ext.refl w71; clear hEn hX71 hG71 hO71)
            refine Seg.step rfl rfl (Yd.assign rfl) (Seg.nil (At.then_ (Cd.region (Seg.step rfl rfl (Yd.move rfl) (Seg.step rfl rfl (Yd.move rfl) (Seg.step rfl rfl (Yd.addI rfl rfl (by omega)) (Seg.step rfl rfl (Yd.slStrL rfl rfl rfl (NatOf.add (NatOf.cast 2) (NatOf.cast _)) (by omega)) ?_)))))))
            refine Seg.step rfl rfl (Yd.assign rfl) (Seg.nil (At.blk ?_))
            exact At.round (⟨f, L ++ [(R.drop 2).take n], R.drop (2 + n), _⟩ : FdS) (.cons rfl (.cons rfl (.cons rfl (.nil _)))) ⟨⟨by rw [List.append_assoc]; exact hL, hR2, by show (R.drop (2 + n)).length ≤ f; rw [List.length_drop]; omega, by show (L ++ [(R.drop 2).take n]).length + (R.drop (2 + n)).length ≤ _; rw [List.length_append, List.length_drop]; show _ + 1 + _ ≤ _; omega⟩, kO2, kE6⟩ (Nat.lt_succ_self f)
        · exfalso; omega
      · have hfn := frsF_no hwR f
        have hnl : (R.length : Int) - 2 < (n : Int) := by have : ¬ (2 ≤ R.length ∧ deB (R.take 2) + 2 ≤ R.length) := hwR; omega
        refine Cd.seq (Cd.seq (Cd.region (Seg.step rfl rfl (Yd.move rfl) (Seg.step rfl rfl (Yd.lenStr rfl rfl) (Seg.step rfl rfl (Yd.geq rfl rfl) (Seg.nil (At.then_ ?_)))))))
        refine Cd.condk rfl (fun h36 => ?_) (fun h36 => ?_)
        · refine Cd.skip (At.then_ (Cd.block (Cd.seq (Cd.region (Seg.step rfl rfl (Yd.move rfl) ?_)))))
          (refine Seg.call rfl rfl (own_of rfl) rfl (enew_any R _) ?_; rintro _ w44 ⟨⟨b44, rfl, hb44, hB44⟩, hE44⟩; have hBn := hB44; have hbn := Nat.le_trans (Below.size hEn) hb44)
          have hlt44_0 := Nat.le_trans hE5.size hb44
          have hlt44_1 := Nat.le_trans hEn.size hb44
          replace hE5 := Ext.trans hE5 hE44
          replace hEn := Ext.trans hEn hE44
          (refine Seg.call rfl rfl (own_of rfl) rfl (enum_any R _ 2 _ hBn (by omega) (by decide)) ?_; rw [← hn]; rintro _ w45 ⟨rfl, hW45, hB45⟩; have hEm := Ext.wr' hEn hW45 hbn; clear hEn; have hEn := hEm; clear hEm)
          replace hE44 := Ext.wr' hE44 hW45 (by omega)
          replace hE5 := Ext.wr' hE5 hW45 (by omega)
          refine Seg.step rfl rfl (Yd.assign rfl) (Seg.nil (At.then_ (Cd.seq (Cd.seq (Cd.region (Seg.step rfl rfl (Yd.move rfl) (Seg.step rfl rfl (Yd.move rfl) ?_)))))))
          refine Seg.step rfl rfl (Yd.lenStr rfl rfl) (Seg.step rfl rfl (Yd.subI rfl rfl (by omega)) (Seg.step rfl rfl (Yd.gtr rfl rfl) (Seg.nil (At.then_ ?_))))
          refine Cd.condk rfl (fun h59 => ?_) (fun h59 => ?_)
          · refine Cd.exit (At.then_exit (At.blk_other rfl (At.then_exit (At.blk_same (At.then_ (Cd.seq (Cd.region ?_)))))))
            refine Seg.step rfl rfl (Yd.move rfl) (Seg.step rfl rfl (Yd.move rfl) ?_)
            (refine Seg.call rfl rfl (own_of rfl) rfl (sclone_any R _ (by omega)) ?_; rintro _ w71 ⟨rfl, hE71⟩)
            replace hW45 := Wr.trans hW45 (Ext.wr hE71 _)
            replace hB45 := hB45.ext hE71
            replace hEn := Ext.trans hEn hE71
            replace hE44 := Ext.trans hE44 hE71
            replace hE5 := Ext.trans hE5 hE71
            (refine Seg.call rfl rfl (own_of rfl) rfl (skeep_any [] R [] j _ (JnAt.ext kJ (by assumption)) (Nat.zero_le _) (by omega)) ?_; rintro _ w72 ⟨l3, hJ6, hW6⟩; have hE4 : Keep (Ext w4 _) := (by assumption); have hO6 := own_wr (own_ext kO hEn) hW6 (own_noblk kO hjb); have hEz := Ext.refl w72; clear hEn)
            refine Seg.nil (At.then_ (Cd.seq (Cd.region (Seg.step rfl rfl (Yd.move rfl) (Seg.step rfl rfl (Yd.assign rfl) (Seg.nil (At.then_ ?_)))))))
            refine Cd.ret ?_
            exact At.ret Tryz.results8 (.tmp rfl .nil) ⟨by rw [← hL, hfn, List.append_nil]; exact own_sl hO6, own_sloff hO6 hjb, ⟨l3, by rw [← hR2, hfn]; exact hJ6⟩, Wr.trans (Wr.trans kW4 (Ext.wr hE4 j)) hW6⟩
          · exfalso; omega
        · exfalso; omega
    · have hfn := frsF_no (fun h => h2 (by have := h.1; omega) : ¬ whB R) f
      refine Cd.seq (Cd.seq (Cd.region (Seg.step rfl rfl (Yd.move rfl) (Seg.step rfl rfl (Yd.lenStr rfl rfl) (Seg.step rfl rfl (Yd.geq rfl rfl) (Seg.nil (At.then_ ?_)))))))
      refine Cd.condk rfl (fun h36 => ?_) (fun h36 => ?_)
      · exfalso; omega
      · refine Cd.exit (At.then_exit (At.then_exit (At.blk_same (At.then_ (Cd.seq (Cd.region (Seg.step rfl rfl (Yd.move rfl) ?_)))))))
        refine Seg.step rfl rfl (Yd.move rfl) ?_
        (refine Seg.call rfl rfl (own_of rfl) rfl (sclone_any R _ (by omega)) ?_; rintro _ w47 ⟨rfl, hE47⟩)
        replace hE5 := Ext.trans hE5 hE47
        replace hEn := Ext.trans hEn hE47
        (refine Seg.call rfl rfl (own_of rfl) rfl (skeep_any [] R [] j _ (JnAt.ext kJ (by assumption)) (Nat.zero_le _) (by omega)) ?_; rintro _ w48 ⟨l3, hJ6, hW6⟩; have hE4 : Keep (Ext w4 _) := (by assumption); have hO6 := own_wr (own_ext kO hEn) hW6 (own_noblk kO hjb); have hEz := Ext.refl w48; clear hEn)
        refine Seg.nil (At.then_ (Cd.seq (Cd.region (Seg.step rfl rfl (Yd.move rfl) (Seg.step rfl rfl (Yd.assign rfl) (Seg.nil (At.then_ ?_)))))))
        refine Cd.ret ?_
        exact At.ret Tryz.results8 (.tmp rfl .nil) ⟨by rw [← hL, hfn, List.append_nil]; exact own_sl hO6, own_sloff hO6 hjb, ⟨l3, by rw [← hR2, hfn]; exact hJ6⟩, Wr.trans (Wr.trans kW4 (Ext.wr hE4 j)) hW6⟩
  · have hwf : decide (whB (X ++ s)) = false := decide_eq_false hw
    have hfr : frs (X ++ s) = ([], X ++ s) := frsF_no hw _
    rw [hfr]
    refine Cd.seq (Cd.region (Seg.step rfl rfl (Yd.assign rfl) (Seg.nil (At.then_ (Cd.seq (Cd.seq (Cd.region ?_)))))))
    refine Seg.step rfl rfl (Yd.move rfl) (Seg.step rfl rfl (Yd.eqlNilP rfl rfl rfl) (Seg.nil (At.then_ (Cd.condF rfl (Cd.skip (At.then_ (Cd.seq ?_)))))))
    refine Cd.region (Seg.step rfl rfl (Yd.move rfl) (Seg.step rfl rfl (Yd.move rfl) ?_))
    (refine Seg.call rfl rfl (own_of rfl) rfl (skeep_any X s l j _ hJ (by omega) (by omega)) ?_; rintro _ w20 ⟨l2, hJ2, hW2⟩; have hE2 := Ext.refl w20; clear hE0)
    refine Seg.nil (At.then_ (Cd.seq (Cd.seq (Cd.region (Seg.step rfl rfl (Yd.move rfl) ?_)))))
    (refine Seg.call rfl rfl (own_of rfl) rfl (swhole_any (X ++ s) l2 j _ hJ2 (by omega)) ?_; rw [hwf]; rintro _ w27 ⟨rfl, hE27⟩; have hJ3 := JnAt.ext hJ2 hE27)
    replace hJ2 := hJ2.ext hE27
    replace hW2 := Wr.trans hW2 (Ext.wr hE27 _)
    replace hE2 := Ext.trans hE2 hE27
    refine Seg.step rfl rfl (Yd.not rfl) (Seg.nil (At.then_ (Cd.condT rfl (Cd.seq (Cd.region (Seg.step rfl rfl (Yd.assign rfl) (Seg.nil ?_)))))))
    refine At.then_ (Cd.ret (At.then_ret ?_))
    exact At.ret Tryz.results8 (.tmp rfl .nil) ⟨Sl.nil _ _, fun _ _ _ h => (by cases h), ⟨_, hJ3⟩, by assumption⟩
end Go.Proofs.YtahpiaaffeiadaaGreat
