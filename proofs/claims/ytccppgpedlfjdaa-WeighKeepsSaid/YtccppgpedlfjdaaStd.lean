/- Stable sorting: the walk of slices.SortStableFunc. -/
import Derived.Test.YtccppgpedlfjdaaSyc
namespace Go.Proofs.Ytccppgpedlfjdaa
open Go Go.RowKit
theorem sym_any : ∀ len, SymOk len
  | 0 => fun A L R B zs b N cap p q r w h h1 h2 => by omega
  | len + 1 => fun A L R B zs b N cap p q r w h h1 h2 hL hR hN hN' hB hp hq hr => by
    by_cases e1 : L.length = 1
    · obtain ⟨x, rfl⟩ := List.length_eq_one_iff.1 e1
      have := sym_left A x R B zs b N cap p q r w h2 hR (by simpa using hN) hN' (by simpa using hB) hp (by simpa using hq) (by simpa using hr)
      simpa using this
    · by_cases e2 : R.length = 1
      · obtain ⟨x, rfl⟩ := List.length_eq_one_iff.1 e2
        have := sym_right A L x B zs b N cap p q r w (by omega) hL (by simpa using hN) hN' (by simpa using hB) hp hq (by simpa using hr)
        simpa using this
      · exact sym_main len (sym_any len) A L R B zs b N cap p q r w h (by omega) (by omega) hL hR hN hN' hB hp hq hr
theorem Yd.mulI {P : Program} {n : Nat} {fr : Fr} {w : World} {T U U' : TypeId} {x y : Operand} {i j : Int} (hx : Fr.ev fr x = some (.int .i64 i)) (hy : Fr.ev fr y = some (.int .i64 j)) (h : -9223372036854775808 ≤ i * j ∧ i * j ≤ 9223372036854775807) : Yd P n (.binOp .mul U x y U') T fr w (.int .i64 (i * j)) w := by
  have := Yd.mul (P := P) (n := n) (w := w) (T := T) (U := U) (U' := U') hx hy
  rwa [IntWalk.i64_in _ h] at this
/-- Sorted pieces of s members each, and a shorter one. -/
def Blk (s : Nat) (cur : List El) : Prop := ∃ (Cs : List (List El)) (T : List El), cur = Cs.flatten ++ T ∧ (∀ c ∈ Cs, c.length = s ∧ Srtd key c) ∧ T.length < s ∧ Srtd key T
theorem Blk.all {s : Nat} {cur : List El} (h : Blk s cur) (hs : cur.length ≤ s) : Srtd key cur := by
  obtain ⟨Cs, T, rfl, h1, h2, h3⟩ := h
  cases Cs with
  | nil => simpa using h3
  | cons c Cs =>
    obtain ⟨h4, h5⟩ := h1 c (by simp)
    simp only [List.flatten_cons, List.length_append] at hs
    have hT : T = [] := List.eq_nil_of_length_eq_zero (by omega)
    have hC : Cs.flatten = [] := List.eq_nil_of_length_eq_zero (by omega)
    simpa [hT, hC] using h5
structure Ph1 where
  Cs : List (List El)
  T : List El
  a : Int
  b : Int
structure Ph2 where
  Ds : List (List El)
  Cs : List (List El)
  T : List El
  a : Int
  b : Int
structure Out2 where
  s : Nat
  z : Int
  cur : List El
  a : Int
  b : Int
theorem flat_snoc (Cs : List (List El)) (Y : List El) : (Cs ++ [Y]).flatten = Cs.flatten ++ Y := by simp
set_option maxHeartbeats 1000000 in
theorem stb_any (xs : List El) (zs : List Value) (b N cap : Nat) (n : Int) (w : World) (hN : N = xs.length) (hN' : N ≤ 1000000) (hB : Bx w b (xs.flatMap cel ++ zs)) (hn : n = (N : Nat)) :
    Ret Try.prog 31 #[dataV b N cap, .int .i64 n, cmpV] w fun _ w' => ∃ Y, Bx w' b (Y.flatMap cel ++ zs) ∧ Wr b w w' ∧ Srtd key Y ∧ SameBy key xs Y := by
  have hWr : Wr b w w := Wr.here
  refine Ret.body Try.func31 rfl Try.ntmps31 rfl ?_
  refine Cd.seq ?_
  refine Cd.region ?_
  refine Seg.step rfl rfl (Yd.assign rfl) ?_
  refine Seg.nil ?_
  refine At.then_ ?_
  refine Cd.seq ?_
  refine Cd.region ?_
  refine Seg.step rfl rfl (Yd.move rfl) ?_
  refine Seg.step rfl rfl (Yd.assign rfl) ?_
  refine Seg.step rfl rfl (Yd.assign rfl) ?_
  refine Seg.nil ?_
  refine At.then_ ?_
  refine Cd.seq ?_
  refine Cd.block ?_
  refine Cd.loop (σ := Ph1) (fun s => [(0, dataV b N cap), (1, .int .i64 n), (2, cmpV), (6, .int .i64 20), (7, .int .i64 s.a), (8, .int .i64 s.b)])
    (fun s w' => (s.a = (s.Cs.flatten.length : Nat) ∧ s.b = s.a + 20 ∧ s.Cs.flatten.length + s.T.length = N) ∧ (∀ c ∈ s.Cs, c.length = 20 ∧ Srtd key c) ∧ SameBy key xs (s.Cs.flatten ++ s.T) ∧ Bx w' b ((s.Cs.flatten ++ s.T).flatMap cel ++ zs) ∧ Wr b w w')
    (fun s => s.T.length) ⟨[], xs, 0, 20⟩ (.cons rfl (.cons rfl (.cons rfl (.cons rfl (.cons rfl (.cons rfl (.nil _))))))) ⟨⟨rfl, rfl, by show 0 + xs.length = N; omega⟩, (fun _ h => by cases h), SameBy.refl _, by simpa using hB, hWr⟩ ?_
  clear hB hWr
  rintro ⟨Cs, T, a, bb⟩ w0 ⟨⟨ha, hbb, hl⟩, hCs, hsame, hB, hWr⟩
  simp only at ha hbb hl hCs hsame hB ⊢
  by_cases hT : 20 ≤ T.length
  · have hMT : T.take 20 ++ T.drop 20 = T := List.take_append_drop _ _
    generalize hM : T.take 20 = M at hMT
    generalize hT2 : T.drop 20 = T2 at hMT
    have hMl : M.length = 20 := by rw [← hM, List.length_take]; omega
    clear hM hT2
    subst hMT
    rw [List.length_append] at hl hT
    have hins := fun w1 (h : Bx w1 b ((Cs.flatten ++ (M ++ T2)).flatMap cel ++ zs)) => ins_any Cs.flatten M T2 zs b N cap a bb w1 (by rw [List.length_append, List.length_append]; omega) hN' h ha (by rw [hbb, ha, hMl]; omega)
    refine Cd.seq ?_
    refine Cd.seq ?_
    refine Cd.region ?_
    refine Seg.step rfl rfl (Yd.move rfl) ?_
    refine Seg.step rfl rfl (Yd.move rfl) ?_
    refine Seg.step rfl rfl (Yd.leq rfl rfl) ?_
    refine Seg.nil ?_
    refine At.then_ ?_
    refine Cd.condk rfl (fun h9 => ?_) (fun h9 => ?_)
    · refine Cd.skip ?_
      refine At.then_ ?_
      refine Cd.block ?_
      refine Cd.seq ?_
      refine Cd.region ?_
      refine Seg.step rfl rfl (Yd.move rfl) ?_
      refine Seg.step rfl rfl (Yd.move rfl) ?_
      refine Seg.step rfl rfl (Yd.move rfl) ?_
      refine Seg.step rfl rfl (Yd.move rfl) ?_
      (refine Seg.call rfl rfl (own_of rfl) rfl (hins _ hB) ?_; rintro _ w20 ⟨Y, hB, hW20, hY, hYs⟩; replace hWr := hWr.trans hW20; have hYl := hYs.len)
      refine Seg.nil ?_
      refine At.then_ ?_
      refine Cd.seq ?_
      refine Cd.region ?_
      refine Seg.step rfl rfl (Yd.move rfl) ?_
      refine Seg.step rfl rfl (Yd.assign rfl) ?_
      refine Seg.nil ?_
      refine At.then_ ?_
      refine Cd.region ?_
      refine Seg.step rfl rfl (Yd.move rfl) ?_
      refine Seg.step rfl rfl (Yd.move rfl) ?_
      refine Seg.step rfl rfl (Yd.addI rfl rfl (by omega)) ?_
      refine Seg.step rfl rfl (Yd.assign rfl) ?_
      refine Seg.nil ?_
      refine At.blk ?_
      exact At.round (⟨Cs ++ [Y], T2, bb, bb + 20⟩ : Ph1) (.cons rfl (.cons rfl (.cons rfl (.cons rfl (.cons rfl (.cons rfl (.nil _))))))) ⟨⟨by show bb = (((Cs ++ [Y]).flatten.length : Nat) : Int); rw [flat_snoc, List.length_append]; omega, rfl, by show (Cs ++ [Y]).flatten.length + T2.length = N; rw [flat_snoc, List.length_append]; omega⟩, (fun c hc => by rcases List.mem_append.1 hc with hc | hc; (exact hCs c hc); (cases List.mem_singleton.1 hc; exact ⟨by omega, hY⟩)), (by show SameBy key xs ((Cs ++ [Y]).flatten ++ T2); rw [flat_snoc, List.append_assoc]; exact hsame.trans hYs.mid), (by show Bx _ b (((Cs ++ [Y]).flatten ++ T2).flatMap cel ++ zs); rw [flat_snoc, List.append_assoc]; exact hB), hWr⟩ (by show T2.length < (M ++ T2).length; rw [List.length_append]; omega)
    · exfalso; omega
  · have hins := fun w1 (h : Bx w1 b ((Cs.flatten ++ (T ++ [])).flatMap cel ++ zs)) => ins_any Cs.flatten T [] zs b N cap a n w1 (by rw [List.append_nil, List.length_append]; omega) hN' h ha (by rw [hn]; omega)
    have hB' : Bx w0 b ((Cs.flatten ++ (T ++ [])).flatMap cel ++ zs) := by simpa using hB
    clear hB
    refine Cd.seq ?_
    refine Cd.seq ?_
    refine Cd.region ?_
    refine Seg.step rfl rfl (Yd.move rfl) ?_
    refine Seg.step rfl rfl (Yd.move rfl) ?_
    refine Seg.step rfl rfl (Yd.leq rfl rfl) ?_
    refine Seg.nil ?_
    refine At.then_ ?_
    refine Cd.condk rfl (fun h9 => ?_) (fun h9 => ?_)
    · exfalso; omega
    refine Cd.exit ?_
    refine At.then_exit ?_
    refine At.then_exit ?_
    refine At.blk_same ?_
    refine At.then_ ?_
    refine Cd.seq ?_
    refine Cd.region ?_
    refine Seg.step rfl rfl (Yd.move rfl) ?_
    refine Seg.step rfl rfl (Yd.move rfl) ?_
    refine Seg.step rfl rfl (Yd.move rfl) ?_
    refine Seg.step rfl rfl (Yd.move rfl) ?_
    (refine Seg.call rfl rfl (own_of rfl) rfl (hins _ hB') ?_; rintro _ w22 ⟨Y, hB, hW22, hY, hYs⟩; replace hWr := hWr.trans hW22; have hYl := hYs.len)
    refine Seg.nil ?_
    refine At.then_ ?_
    refine Cd.block ?_
    have hB2 : Bx w22 b ((Cs.flatten ++ Y).flatMap cel ++ zs) := by simpa using hB
    have hsame2 : SameBy key xs (Cs.flatten ++ Y) := hsame.trans ((SameBy.refl _).app hYs)
    have hblk : Blk 20 (Cs.flatten ++ Y) := ⟨Cs, Y, rfl, hCs, by omega, hY⟩
    generalize hcur : Cs.flatten ++ Y = cur at hB2 hsame2 hblk
    clear hB hB' hsame hcur hins hY hYs hYl hCs hl ha hbb hT h9 hW22
    refine Cd.loop (σ := Out2) (fun s => [(0, dataV b N cap), (1, .int .i64 n), (2, cmpV), (6, .int .i64 s.z), (7, .int .i64 s.a), (8, .int .i64 s.b)])
      (fun s w' => (20 ≤ s.s ∧ s.z = (s.s : Int) ∧ Blk s.s s.cur) ∧ SameBy key xs s.cur ∧ Bx w' b (s.cur.flatMap cel ++ zs) ∧ Wr b w w')
      (fun s => N - s.s) ⟨20, 20, cur, a, bb⟩ (.cons rfl (.cons rfl (.cons rfl (.cons rfl (.cons rfl (.cons rfl (.nil _))))))) ⟨⟨by show 20 ≤ 20; omega, rfl, hblk⟩, hsame2, hB2, hWr⟩ ?_
    clear hWr hB2 hsame2 hblk
    rintro ⟨s, z, cur, a, bb⟩ w0 ⟨⟨hs, hz, hblk⟩, hsame, hB, hWr⟩
    simp only at hs hz hblk hsame hB ⊢
    have hlc := hsame.len
    by_cases hsn : s < N
    · obtain ⟨Cs, T, hcur, hCs, hTs, hTr⟩ := hblk
      have hone : ∀ (s' : Nat) (z' : Int) (cur' : List El) (w' : World), s' = 2 * s → z' = 2 * z → Blk s' cur' → SameBy key xs cur' → Bx w' b (cur'.flatMap cel ++ zs) → Wr b w w' →
          ((20 ≤ s' ∧ z' = (s' : Int) ∧ Blk s' cur') ∧ SameBy key xs cur' ∧ Bx w' b (cur'.flatMap cel ++ zs) ∧ Wr b w w') ∧ N - s' < N - s := fun s' z' cur' w' h1 h2 h3 h4 h5 h6 => ⟨⟨⟨by omega, by omega, h3⟩, h4, h5, h6⟩, by omega⟩
      refine Cd.seq ?_
      refine Cd.seq ?_
      refine Cd.region ?_
      refine Seg.step rfl rfl (Yd.move rfl) ?_
      refine Seg.step rfl rfl (Yd.move rfl) ?_
      refine Seg.step rfl rfl (Yd.lss rfl rfl) ?_
      refine Seg.nil ?_
      refine At.then_ ?_
      refine Cd.condk rfl (fun h31 => ?_) (fun h31 => ?_)
      rotate_left 1
      · exfalso; omega
      rotate_right 1
      refine Cd.skip ?_
      refine At.then_ ?_
      refine Cd.block ?_
      refine Cd.seq ?_
      refine Cd.region ?_
      refine Seg.step rfl rfl (Yd.move rfl) ?_
      refine Seg.step rfl rfl (Yd.mulI rfl rfl (by omega)) ?_
      refine Seg.step rfl rfl (Yd.assign rfl) ?_
      refine Seg.step rfl rfl (Yd.assign rfl) ?_
      refine Seg.nil ?_
      refine At.then_ ?_
      refine Cd.seq ?_
      refine Cd.block ?_
      refine Cd.loop (σ := Ph2) (fun s => [(0, dataV b N cap), (1, .int .i64 n), (2, cmpV), (6, .int .i64 z), (7, .int .i64 s.a), (8, .int .i64 s.b)])
        (fun t w' => (t.a = (t.Ds.flatten.length : Nat) ∧ t.b = t.a + 2 * z ∧ t.Ds.flatten.length + (t.Cs.flatten.length + t.T.length) = N) ∧ (∀ c ∈ t.Ds, c.length = 2 * s ∧ Srtd key c) ∧ (∀ c ∈ t.Cs, c.length = s ∧ Srtd key c) ∧ (t.T.length < s ∧ Srtd key t.T) ∧ SameBy key xs (t.Ds.flatten ++ (t.Cs.flatten ++ t.T)) ∧ Bx w' b ((t.Ds.flatten ++ (t.Cs.flatten ++ t.T)).flatMap cel ++ zs) ∧ Wr b w w')
        (fun t => t.Cs.length) ⟨[], Cs, T, 0, _⟩ (.cons rfl (.cons rfl (.cons rfl (.cons rfl (.cons rfl (.cons rfl (.nil _))))))) ⟨⟨rfl, by show 2 * z = 0 + 2 * z; omega, by show 0 + (Cs.flatten.length + T.length) = N; rw [← List.length_append, ← hcur]; omega⟩, (fun _ h => by cases h), hCs, ⟨hTs, hTr⟩, by subst hcur; exact hsame, by subst hcur; exact hB, hWr⟩ ?_
      clear hWr hB hsame hCs hTs hTr hlc hcur
      rintro ⟨Ds, Cs, T, a, bb⟩ w0 ⟨⟨ha, hbb, hl⟩, hDs, hCs, ⟨hTs, hTr⟩, hsame, hB, hWr⟩
      simp only at ha hbb hl hDs hCs hTs hTr hsame hB ⊢
      rcases Cs with _ | ⟨c1, _ | ⟨c2, Cs⟩⟩
      · have hl' : Ds.flatten.length + T.length = N := by simpa using hl
        have hk : Blk (2 * s) (Ds.flatten ++ T) := ⟨Ds, T, rfl, hDs, by omega, hTr⟩
        have hB : Bx w0 b ((Ds.flatten ++ T).flatMap cel ++ zs) := by simpa using hB
        have hsame : SameBy key xs (Ds.flatten ++ T) := by simpa using hsame
        refine Cd.seq ?_
        refine Cd.seq ?_
        refine Cd.region ?_
        refine Seg.step rfl rfl (Yd.move rfl) ?_
        refine Seg.step rfl rfl (Yd.move rfl) ?_
        refine Seg.step rfl rfl (Yd.leq rfl rfl) ?_
        refine Seg.nil ?_
        refine At.then_ ?_
        refine Cd.condk rfl (fun h40 => ?_) (fun h40 => ?_)
        · exfalso; omega
        · refine Cd.exit ?_
          refine At.then_exit ?_
          refine At.then_exit ?_
          refine At.blk_same ?_
          refine At.then_ ?_
          refine Cd.seq ?_
          refine Cd.seq ?_
          refine Cd.region ?_
          refine Seg.step rfl rfl (Yd.move rfl) ?_
          refine Seg.step rfl rfl (Yd.move rfl) ?_
          refine Seg.step rfl rfl (Yd.addI rfl rfl (by omega)) ?_
          refine Seg.step rfl rfl (Yd.assign rfl) ?_
          refine Seg.nil ?_
          refine At.then_ ?_
          refine Cd.seq ?_
          refine Cd.region ?_
          refine Seg.step rfl rfl (Yd.move rfl) ?_
          refine Seg.step rfl rfl (Yd.move rfl) ?_
          refine Seg.step rfl rfl (Yd.lss rfl rfl) ?_
          refine Seg.nil ?_
          refine At.then_ ?_
          refine Cd.condk rfl (fun h63 => ?_) (fun h63 => ?_)
          · exfalso; omega
          · refine Cd.skip ?_
            refine At.then_ ?_
            refine Cd.region ?_
            refine Seg.step rfl rfl (Yd.move rfl) ?_
            refine Seg.step rfl rfl (Yd.mulI rfl rfl (by omega)) ?_
            refine Seg.step rfl rfl (Yd.assign rfl) ?_
            refine Seg.nil ?_
            refine At.blk ?_
            exact At.round (⟨2 * s, z * 2, Ds.flatten ++ T, _, _⟩ : Out2) (.cons rfl (.cons rfl (.cons rfl (.cons rfl (.cons rfl (.cons rfl (.nil _))))))) (hone (2 * s) (z * 2) _ _ rfl (by omega) hk hsame hB hWr).1 (hone (2 * s) (z * 2) _ _ rfl (by omega) hk hsame hB hWr).2
      · obtain ⟨hc1, hr1⟩ := hCs c1 (by simp)
        have hl' : Ds.flatten.length + (c1.length + T.length) = N := by simpa using hl
        have hsame' : SameBy key xs (Ds.flatten ++ (c1 ++ T)) := by simpa using hsame
        have hB' : Bx w0 b ((Ds.flatten ++ (c1 ++ T)).flatMap cel ++ zs) := by simpa using hB
        clear hB hsame hl
        by_cases hT0 : 0 < T.length
        · have hB : Bx w0 b ((Ds.flatten ++ ((c1 ++ T) ++ [])).flatMap cel ++ zs) := by simpa using hB'
          clear hB'
          have hsym := fun w1 (h : Bx w1 b ((Ds.flatten ++ ((c1 ++ T) ++ [])).flatMap cel ++ zs)) => sym_any (s + s) Ds.flatten c1 T [] zs b N cap a (a + z) n w1 (by omega) (by omega) hT0 hr1 hTr (by rw [List.length_append, List.length_append, List.length_append, List.length_nil]; omega) hN' h ha (by omega) (by omega)
          refine Cd.seq ?_
          refine Cd.seq ?_
          refine Cd.region ?_
          refine Seg.step rfl rfl (Yd.move rfl) ?_
          refine Seg.step rfl rfl (Yd.move rfl) ?_
          refine Seg.step rfl rfl (Yd.leq rfl rfl) ?_
          refine Seg.nil ?_
          refine At.then_ ?_
          refine Cd.condk rfl (fun h40 => ?_) (fun h40 => ?_)
          · exfalso; omega
          · refine Cd.exit ?_
            refine At.then_exit ?_
            refine At.then_exit ?_
            refine At.blk_same ?_
            refine At.then_ ?_
            refine Cd.seq ?_
            refine Cd.seq ?_
            refine Cd.region ?_
            refine Seg.step rfl rfl (Yd.move rfl) ?_
            refine Seg.step rfl rfl (Yd.move rfl) ?_
            refine Seg.step rfl rfl (Yd.addI rfl rfl (by omega)) ?_
            refine Seg.step rfl rfl (Yd.assign rfl) ?_
            refine Seg.nil ?_
            refine At.then_ ?_
            refine Cd.seq ?_
            refine Cd.region ?_
            refine Seg.step rfl rfl (Yd.move rfl) ?_
            refine Seg.step rfl rfl (Yd.move rfl) ?_
            refine Seg.step rfl rfl (Yd.lss rfl rfl) ?_
            refine Seg.nil ?_
            refine At.then_ ?_
            refine Cd.condk rfl (fun h63 => ?_) (fun h63 => ?_)
            · refine Cd.region ?_
              refine Seg.step rfl rfl (Yd.move rfl) ?_
              refine Seg.step rfl rfl (Yd.move rfl) ?_
              refine Seg.step rfl rfl (Yd.move rfl) ?_
              refine Seg.step rfl rfl (Yd.move rfl) ?_
              refine Seg.step rfl rfl (Yd.move rfl) ?_
              (refine Seg.call rfl rfl (own_of rfl) rfl (hsym _ hB) ?_; rintro _ w71 ⟨Y, hB, hW71, hY, hYs⟩; replace hWr := hWr.trans hW71; have hYl := hYs.len)
              refine Seg.nil ?_
              refine At.then_ ?_
              refine Cd.region ?_
              refine Seg.step rfl rfl (Yd.move rfl) ?_
              refine Seg.step rfl rfl (Yd.mulI rfl rfl (by omega)) ?_
              refine Seg.step rfl rfl (Yd.assign rfl) ?_
              refine Seg.nil ?_
              refine At.blk ?_
              exact At.round (⟨2 * s, z * 2, Ds.flatten ++ Y, _, _⟩ : Out2) (.cons rfl (.cons rfl (.cons rfl (.cons rfl (.cons rfl (.cons rfl (.nil _))))))) (hone (2 * s) (z * 2) _ _ rfl (by omega) ⟨Ds, Y, rfl, hDs, by rw [List.length_append] at hYl; omega, hY⟩ (hsame'.trans ((SameBy.refl _).app hYs)) (by simpa using hB) hWr).1 (by show N - 2 * s < N - s; omega)
            · exfalso; omega
        · have hT1 : T = [] := List.eq_nil_of_length_eq_zero (by omega)
          subst hT1
          rw [List.append_nil] at hsame' hB'
          refine Cd.seq ?_
          refine Cd.seq ?_
          refine Cd.region ?_
          refine Seg.step rfl rfl (Yd.move rfl) ?_
          refine Seg.step rfl rfl (Yd.move rfl) ?_
          refine Seg.step rfl rfl (Yd.leq rfl rfl) ?_
          refine Seg.nil ?_
          refine At.then_ ?_
          refine Cd.condk rfl (fun h40 => ?_) (fun h40 => ?_)
          · exfalso; omega
          · refine Cd.exit ?_
            refine At.then_exit ?_
            refine At.then_exit ?_
            refine At.blk_same ?_
            refine At.then_ ?_
            refine Cd.seq ?_
            refine Cd.seq ?_
            refine Cd.region ?_
            refine Seg.step rfl rfl (Yd.move rfl) ?_
            refine Seg.step rfl rfl (Yd.move rfl) ?_
            refine Seg.step rfl rfl (Yd.addI rfl rfl (by omega)) ?_
            refine Seg.step rfl rfl (Yd.assign rfl) ?_
            refine Seg.nil ?_
            refine At.then_ ?_
            refine Cd.seq ?_
            refine Cd.region ?_
            refine Seg.step rfl rfl (Yd.move rfl) ?_
            refine Seg.step rfl rfl (Yd.move rfl) ?_
            refine Seg.step rfl rfl (Yd.lss rfl rfl) ?_
            refine Seg.nil ?_
            refine At.then_ ?_
            refine Cd.condk rfl (fun h63 => ?_) (fun h63 => ?_)
            · exfalso; omega
            · refine Cd.skip ?_
              refine At.then_ ?_
              refine Cd.region ?_
              refine Seg.step rfl rfl (Yd.move rfl) ?_
              refine Seg.step rfl rfl (Yd.mulI rfl rfl (by omega)) ?_
              refine Seg.step rfl rfl (Yd.assign rfl) ?_
              refine Seg.nil ?_
              refine At.blk ?_
              exact At.round (⟨2 * s, z * 2, Ds.flatten ++ c1, _, _⟩ : Out2) (.cons rfl (.cons rfl (.cons rfl (.cons rfl (.cons rfl (.cons rfl (.nil _))))))) (hone (2 * s) (z * 2) _ _ rfl (by omega) ⟨Ds, c1, rfl, hDs, by omega, hr1⟩ hsame' hB' hWr).1 (by show N - 2 * s < N - s; omega)
      · obtain ⟨hc1, hr1⟩ := hCs c1 (by simp)
        obtain ⟨hc2, hr2⟩ := hCs c2 (by simp)
        have e1 : Ds.flatten ++ ((c1 :: c2 :: Cs).flatten ++ T) = Ds.flatten ++ ((c1 ++ c2) ++ (Cs.flatten ++ T)) := by simp
        rw [e1] at hB hsame
        have hl' : Ds.flatten.length + (c1.length + (c2.length + (Cs.flatten.length + T.length))) = N := by rw [← hl]; show _ = Ds.flatten.length + ((c1 ++ (c2 ++ Cs.flatten)).length + T.length); rw [List.length_append, List.length_append]; omega
        have hsym := fun w1 (h : Bx w1 b ((Ds.flatten ++ ((c1 ++ c2) ++ (Cs.flatten ++ T))).flatMap cel ++ zs)) => sym_any (s + s) Ds.flatten c1 c2 (Cs.flatten ++ T) zs b N cap a (a + z) bb w1 (by omega) (by omega) (by omega) hr1 hr2 (by rw [List.length_append, List.length_append, List.length_append, List.length_append]; omega) hN' h ha (by omega) (by omega)
        refine Cd.seq ?_
        refine Cd.seq ?_
        refine Cd.region ?_
        refine Seg.step rfl rfl (Yd.move rfl) ?_
        refine Seg.step rfl rfl (Yd.move rfl) ?_
        refine Seg.step rfl rfl (Yd.leq rfl rfl) ?_
        refine Seg.nil ?_
        refine At.then_ ?_
        refine Cd.condk rfl (fun h40 => ?_) (fun h40 => ?_)
        · refine Cd.skip ?_
          refine At.then_ ?_
          refine Cd.block ?_
          refine Cd.seq ?_
          refine Cd.region ?_
          refine Seg.step rfl rfl (Yd.move rfl) ?_
          refine Seg.step rfl rfl (Yd.move rfl) ?_
          refine Seg.step rfl rfl (Yd.move rfl) ?_
          refine Seg.step rfl rfl (Yd.move rfl) ?_
          refine Seg.step rfl rfl (Yd.addI rfl rfl (by omega)) ?_
          refine Seg.step rfl rfl (Yd.move rfl) ?_
          refine Seg.step rfl rfl (Yd.move rfl) ?_
          (refine Seg.call rfl rfl (own_of rfl) rfl (hsym _ hB) ?_; rintro _ w54 ⟨Y, hB, hW54, hY, hYs⟩; replace hWr := hWr.trans hW54; have hYl := hYs.len)
          refine Seg.nil ?_
          refine At.then_ ?_
          refine Cd.seq ?_
          refine Cd.region ?_
          refine Seg.step rfl rfl (Yd.move rfl) ?_
          refine Seg.step rfl rfl (Yd.assign rfl) ?_
          refine Seg.nil ?_
          refine At.then_ ?_
          refine Cd.region ?_
          refine Seg.step rfl rfl (Yd.move rfl) ?_
          refine Seg.step rfl rfl (Yd.move rfl) ?_
          refine Seg.step rfl rfl (Yd.mulI rfl rfl (by omega)) ?_
          refine Seg.step rfl rfl (Yd.addI rfl rfl (by omega)) ?_
          refine Seg.step rfl rfl (Yd.assign rfl) ?_
          refine Seg.nil ?_
          refine At.blk ?_
          exact At.round (⟨Ds ++ [Y], Cs, T, bb, _⟩ : Ph2) (.cons rfl (.cons rfl (.cons rfl (.cons rfl (.cons rfl (.cons rfl (.nil _))))))) ⟨⟨by show bb = (((Ds ++ [Y]).flatten.length : Nat) : Int); rw [flat_snoc, List.length_append]; rw [List.length_append] at hYl; omega, rfl, by show (Ds ++ [Y]).flatten.length + (Cs.flatten.length + T.length) = N; rw [flat_snoc, List.length_append]; rw [List.length_append] at hYl; omega⟩, (fun c hc => by rcases List.mem_append.1 hc with hc | hc; (exact hDs c hc); (cases List.mem_singleton.1 hc; exact ⟨by rw [List.length_append] at hYl; omega, hY⟩)), (fun c hc => hCs c (List.mem_cons_of_mem _ (List.mem_cons_of_mem _ hc))), ⟨hTs, hTr⟩, (by show SameBy key xs ((Ds ++ [Y]).flatten ++ (Cs.flatten ++ T)); rw [flat_snoc, List.append_assoc]; exact hsame.trans hYs.mid), (by show Bx _ b (((Ds ++ [Y]).flatten ++ (Cs.flatten ++ T)).flatMap cel ++ zs); rw [flat_snoc, List.append_assoc]; exact hB), hWr⟩ (by show Cs.length < Cs.length + 1 + 1; omega)
        · exfalso; omega
    · refine Cd.seq ?_
      refine Cd.seq ?_
      refine Cd.region ?_
      refine Seg.step rfl rfl (Yd.move rfl) ?_
      refine Seg.step rfl rfl (Yd.move rfl) ?_
      refine Seg.step rfl rfl (Yd.lss rfl rfl) ?_
      refine Seg.nil ?_
      refine At.then_ ?_
      refine Cd.condk rfl (fun h31 => ?_) (fun h31 => ?_)
      · exfalso; omega
      · refine Cd.exit ?_
        refine At.then_exit ?_
        refine At.then_exit ?_
        refine At.blk_same ?_
        exact At.fin Try.results31 .nil ⟨cur, hB, hWr, hblk.all (by omega), hsame⟩
end Go.Proofs.Ytccppgpedlfjdaa
