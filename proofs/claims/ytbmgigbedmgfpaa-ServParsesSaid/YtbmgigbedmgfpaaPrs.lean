/- What a text of services says: the walk. -/
import Derived.Test.YtbmgigbedmgfpaaSvc
namespace Go.Proofs.Ytbmgigbedmgfpaa
open Go Go.RowKit
/-- A service as it lies in memory: its names' value, and itself. -/
abbrev Sv := Value × Svc
def svV (x : Sv) : List Value := [x.1, .int .i64 x.2.port, .int .i64 x.2.proto]
theorem svV_len (x : Sv) : (svV x).length = 3 := rfl
def SvOk (p : Nat → Prop) (w : World) (X : List Sv) : Prop := ∀ x ∈ X, NameAt w x.1 x.2.names ∧ OffP p x.1
theorem SvOk.ext {p : Nat → Prop} {w w' : World} {X : List Sv} (h : SvOk p w X) (hE : Ext w w') : SvOk p w' X := fun x hx => ⟨(h x hx).1.ext hE, (h x hx).2⟩
theorem SvOk.kept {p p' : Nat → Prop} {w w' : World} {X : List Sv} (h : SvOk p w X) (hk : Kept p p' w w') : SvOk p' w' X := fun x hx => ⟨(h x hx).1.keptP hk (h x hx).2, (h x hx).2.kept (h x hx).1 hk⟩
theorem SvOk.snoc {p : Nat → Prop} {w : World} {X : List Sv} {x : Sv} (h : SvOk p w X) (h1 : NameAt w x.1 x.2.names) (h2 : OffP p x.1) : SvOk p w (X ++ [x]) := fun y hy => by
  rcases List.mem_append.1 hy with hy | hy
  · exact h y hy
  · rw [List.mem_singleton.1 hy]; exact ⟨h1, h2⟩
theorem own3_ne_bx {W : World} {base e m bo : Nat} {v u : Value} {cs : List Value} (h : W.ownsRow base e 3 v m cs) (hb : Bx W bo [u]) : ¬ ownP v bo := fun hp => by
  obtain ⟨T, hT⟩ := hb
  rcases h.2 with ⟨rfl, _⟩ | ⟨g, cap, cur, rfl, _, hg, _, _, hs, _⟩
  · cases hp
  · simp only [ownP, Value.ownBlock, Option.some.injEq] at hp
    subst hp
    rw [hT] at hg
    simp only [Option.some.injEq, Obj.cells.injEq] at hg
    have := congrArg Array.size hg.1
    rw [hs] at this
    simp at this
    omega
def prsL (L : List (Nat × List (List UInt8))) : List Svc := L.filterMap fun y => svcB y.2
def prsB (s : List UInt8) : List Svc := prsL (allB true s)
/-- What the reading holds behind k lines. -/
def PrsJ (w : World) (bl : Nat) (L : List (Nat × List (List UInt8))) : Nat → (Nat → Prop) → World → Prop := fun k p W =>
  ∃ (X : List Sv) (v : Value), Bx W bl [v] ∧ W.ownsRow w.heap.size 37 3 v X.length (X.flatMap svV) ∧ SvOk p W X ∧ X.map Prod.snd = prsL (L.take k) ∧ Ext w W ∧ (∀ r, p r ↔ r = bl ∨ ownP v r ∨ r < w.heap.size) ∧ w.heap.size ≤ bl ∧ X.length ≤ k
theorem prs_abides (w W0 : World) (bl : Nat) (L : List (Nat × List (List UInt8))) (h : Ext w W0) : Abides W0.heap.size (PrsJ w bl L) := by
  refine ⟨?_, ?_, ?_⟩
  · rintro k p W ⟨X, v, h1, h2, h4, h5, h6, h7, h8⟩ r hr
    rcases (h7 r).1 hr with rfl | hr | hr
    · exact h1.lt
    · exact (h2.lt r hr).2
    · exact Nat.lt_of_lt_of_le hr h6.size
  · rintro k p W W' ⟨X, v, h1, h2, h4, h5, h6, h7, h8⟩ hE
    exact ⟨X, v, h1.ext hE, own_ext h2 hE, h4.ext hE, h5, h6.trans hE, h7, h8⟩
  · rintro k p W W' r o ⟨X, v, h1, h2, h4, h5, h6, h7, h8⟩ hg hB hp ho hoc
    have n1 : bl ≠ r := fun e => by subst e; exact h1.cells ho hoc
    have n3 : v.ownBlock ≠ some r := fun e => hp ((h7 r).2 (.inr (.inl e)))
    refine ⟨X, v, h1.keeps (hg.block _ h1.lt (by simpa using n1)), h2.kept hg (.inr n3), fun x hx => ⟨Sl.turned (h4 x hx).1 hg (fun r' e => by cases e; exact ⟨o, ho, hoc⟩), (h4 x hx).2⟩, h5, Below.grown h6 hg h6.size (fun k e => by cases e; exact Nat.le_trans h.size hB), h7, h8⟩
theorem prs_step {L : List (Nat × List (List UInt8))} {k n : Nat} {fs : List (List UInt8)} (h : L[k]? = some (n, fs)) : prsL (L.take (k + 1)) = prsL (L.take k) ++ (svcB fs).toList := by
  unfold prsL
  rw [List.take_add_one, h, List.filterMap_append]
  simp [List.filterMap_cons]
  cases svcB fs <;> rfl
theorem own3_snoc {w : World} {base e : Nat} {v : Value} {X : List Sv} {x : Sv} (h : w.ownsRow base e (2 + 1) v (X.length + 1) (X.flatMap svV ++ svV x)) : w.ownsRow base e 3 v (X ++ [x]).length ((X ++ [x]).flatMap svV) := by
  have e1 : (X ++ [x]).length = X.length + 1 := by simp
  have e2 : (X ++ [x]).flatMap svV = X.flatMap svV ++ svV x := by simp
  rw [e1, e2]; exact h
theorem parse_any (s : List UInt8) (w : World) (hl : s.length ≤ 1000000) : Ret Try.prog 13 #[.string ⟨s.toArray⟩] w fun r w' => (∃ X : List Sv, w'.ownsRow w.heap.size 37 3 r X.length (X.flatMap svV) ∧ SvOk (fun q => ownP r q ∨ q < w.heap.size) w' X ∧ X.map Prod.snd = prsB s) ∧ Ext w w' := by
  have hE0 := Ext.refl w
  refine Ret.bodyM Try.func13 rfl Try.ntmps13 rfl ?_
  refine Cd.seq ?_
  refine Cd.region ?_
  refine Seg.step rfl rfl (Yd.assign rfl) ?_
  refine Seg.nil ?_
  refine At.then_ ?_
  refine Cd.seq ?_
  refine Cd.region ?_
  refine Seg.alloc rfl rfl rfl (fun w8 b8 hE8 hB8 hb8 => ?_)
  have hlt8_0 := Nat.le_trans hE0.size hb8
  replace hE0 := Ext.trans hE0 hE8
  refine Seg.nil ?_
  refine At.then_ ?_
  refine Cd.seq ?_
  refine Cd.seq ?_
  refine Cd.region ?_
  refine Seg.step rfl rfl (Yd.move rfl) ?_
  (have hlt10 := Bx.lt hB8; refine Seg.call rfl rfl (own_of rfl) rfl (allf_any s true _) ?_; rintro _ w15 ⟨bs, bc, rfl, hbs, hbc, hls, hlc, hE15⟩)
  replace hE8 := Ext.trans hE8 hE15
  replace hB8 := hB8.ext hE15
  replace hE0 := Ext.trans hE0 hE15
  refine Seg.nil ?_
  refine At.then_ ?_
  refine Cd.block ?_
  have hB0 : Bx w15 b8 [.slice none 0 0] := hB8
  have hN : (allB true s).length ≤ 1000001 := Nat.le_trans (all_le true _ 1) (Nat.le_trans (lines_le s) (by omega))
  have hw8 : w.heap.size ≤ b8 := by omega
  refine Cd.inI (Cd.range (ps := [10, 11]) (q0 := fun r => r = b8 ∨ r < w.heap.size) (fun args => match args with
      | [_, a2] => [(5, a2), (3, .pointer (some ⟨b8, 0, none⟩))]
      | _ => [])
    (PrsJ w b8 (allB true s)) rfl (own_of rfl) (all1_any s true bs bc w15 hbs hbc hl) (AllE.hands true s) (by rfl) (fun k p W args h => by obtain ⟨n, fs, v, _, rfl, _⟩ := h; rfl) (prs_abides w w15 b8 _ hE0)
    ⟨[], .slice none 0 0, hB0, World.ownsRow_nil _ _ _ _, fun _ h => (by cases h), rfl, hE0, fun r => ⟨fun h => h.elim .inl (fun h => .inr (.inr h)), fun h => h.elim .inl (fun h => h.elim (fun h => by cases h) .inr)⟩, hw8, Nat.le_refl _⟩
    (fun r hr => by
      simp at hr
      have h1 := hbs.lt
      have h2 := hbc.lt
      rcases hr with rfl | rfl <;> (refine ⟨?_, by assumption⟩; rintro (h | h) <;> omega)) ?_ ?_ ?_)
  · intro l args W1 Q' hal hAt
    obtain ⟨a1, a2, rfl⟩ : ∃ a1 a2, args = [a1, a2] := by
      rcases args with _ | ⟨a1, _ | ⟨a2, _ | ⟨a3, r⟩⟩⟩ <;> simp at hal
      exact ⟨a1, a2, rfl⟩
    refine CdI.region (SegI.step rfl rfl rfl (Yd.assign rfl) (SegI.nil ?_))
    exact .mk fun a ha => hAt.out a (ha.sub (.cons rfl (.cons rfl (.nil _))))
  · rintro l k q W1 args hk hJ ⟨n, fs, vf, hL, rfl, hf, hof, hcap⟩
    have hmem := List.mem_of_getElem? hL
    have hsh := all_short true s _ hmem
    have hfl := all_flds true (linesB s) 1 _ hmem
    have hE0 := Ext.refl W1
    obtain ⟨X, v, h1, h2, h4, h5, h6, h7, h8, h9⟩ := hJ
    have hst := prs_step hL
    have k4 : Keep (SvOk q W1 X) := h4
    have k1 : Keep (Bx W1 b8 [v]) := h1
    have k2 : Keep (W1.ownsRow w.heap.size 37 3 v X.length (X.flatMap svV)) := h2
    have k6 : Keep (Ext w W1) := h6
    refine CdI.block (CdI.seq (CdI.regionS rfl ?_))
    cases hsv : svcB fs with
    | none =>
      rw [hsv] at hst
      have hst' : prsL ((allB true s).take (k + 1)) = prsL ((allB true s).take k) := by rw [hst]; simp
      refine Seg.step rfl rfl (Yd.move rfl) ?_
      (refine Seg.call rfl rfl (own_of rfl) rfl (service_any fs vf _ hf hcap hfl hsh) ?_; rw [hsv]; rintro _ w17 ⟨⟨u, rfl, hu⟩, hE17⟩)
      replace hE0 := Ext.trans hE0 hE17
      replace h1 := h1.ext hE17
      replace h2 := own_ext h2 hE17
      replace h4 := h4.ext hE17
      replace h6 := Ext.trans h6 hE17
      refine Seg.step rfl rfl (Yd.move rfl) ?_
      refine Seg.step rfl rfl (Yd.extract rfl rfl) ?_
      refine Seg.step rfl rfl (Yd.extract rfl rfl) ?_
      refine Seg.alloc rfl rfl rfl (fun w21 b21 hE21 hB21 hb21 => ?_)
      have hlt21_0 := Nat.le_trans hE17.size hb21
      have hlt21_1 := Nat.le_trans hE0.size hb21
      have hlt21_2 := Nat.lt_of_lt_of_le h1.lt hb21
      have hlt21_3 := Nat.le_trans h6.size hb21
      replace hE17 := Ext.trans hE17 hE21
      replace hE0 := Ext.trans hE0 hE21
      replace h1 := h1.ext hE21
      replace h2 := own_ext h2 hE21
      replace h4 := h4.ext hE21
      replace h6 := Ext.trans h6 hE21
      refine Seg.storeN rfl rfl rfl rfl hB21 rfl (by first | assumption | exact List.all_eq_true.1 rfl) (fun w22 hW22 hB22 => ?_)
      clear hB21
      replace hE21 := Ext.wr' hE21 hW22 (by omega)
      replace hE17 := Ext.wr' hE17 hW22 (by omega)
      replace hE0 := Ext.wr' hE0 hW22 (by omega)
      replace h1 := h1.wr hW22 (by omega)
      replace h6 := Ext.wr' h6 hW22 (by omega)
      refine Seg.step rfl rfl (Yd.assign rfl) ?_
      refine Seg.nil ?_
      refine At.ofI (AtI.then_ (CdI.seq (CdI.regionS rfl ?_)))
      refine Seg.step rfl rfl (Yd.move rfl) ?_
      refine Seg.nil ?_
      refine At.ofI (AtI.then_ (CdI.condF rfl (CdI.skip (AtI.blk ?_))))
      exact .mk fun a ha => ⟨rfl, q, ⟨X, v, Bx.ext k1 hE0, own_ext k2 hE0, SvOk.ext k4 hE0, by rw [h5, hst'], Ext.trans k6 hE0, h7, h8, by omega⟩, Kept.ext hE0⟩
    | some sv =>
      rw [hsv] at hst
      refine Seg.step rfl rfl (Yd.move rfl) ?_
      (refine Seg.call rfl rfl (own_of rfl) rfl (service_any fs vf _ hf hcap hfl hsh) ?_; rw [hsv]; rintro _ w17 ⟨⟨u, rfl, hu⟩, hE17⟩; obtain ⟨hu1, hu2⟩ := hu sv rfl; have hUB : SlB w17 W1.heap.size w17.heap.size 1 u sv.names.length (strV sv.names) := ⟨hu1, hu2.1, hu1.lt⟩; obtain ⟨ua, uc, rfl, -, -, -⟩ := hu1)
      replace hE0 := Ext.trans hE0 hE17
      replace h1 := h1.ext hE17
      replace h2 := own_ext h2 hE17
      replace h4 := h4.ext hE17
      replace h6 := Ext.trans h6 hE17
      refine Seg.step rfl rfl (Yd.move rfl) ?_
      refine Seg.step rfl rfl (Yd.extract rfl rfl) ?_
      refine Seg.step rfl rfl (Yd.extract rfl rfl) ?_
      refine Seg.alloc rfl rfl rfl (fun w21 b21 hE21 hB21 hb21 => ?_)
      have hlt21_0 := Nat.le_trans hE17.size hb21
      have hlt21_1 := Nat.le_trans hE0.size hb21
      have hlt21_2 := Nat.lt_of_lt_of_le h1.lt hb21
      have hlt21_3 := Nat.le_trans h6.size hb21
      replace hE17 := Ext.trans hE17 hE21
      replace hUB := hUB.ext hE21
      replace hE0 := Ext.trans hE0 hE21
      replace h1 := h1.ext hE21
      replace h2 := own_ext h2 hE21
      replace h4 := h4.ext hE21
      replace h6 := Ext.trans h6 hE21
      refine Seg.storeN rfl rfl rfl rfl hB21 rfl (by first | assumption | exact List.all_eq_true.1 rfl) (fun w22 hW22 hB22 => ?_)
      clear hB21
      replace hE21 := Ext.wr' hE21 hW22 (by omega)
      replace hE17 := Ext.wr' hE17 hW22 (by omega)
      replace hUB := hUB.wr hW22 (by omega)
      replace hE0 := Ext.wr' hE0 hW22 (by omega)
      replace h1 := h1.wr hW22 (by omega)
      replace h6 := Ext.wr' h6 hW22 (by omega)
      refine Seg.step rfl rfl (Yd.assign rfl) ?_
      refine Seg.nil ?_
      refine At.ofI (AtI.then_ (CdI.seq (CdI.regionS rfl ?_)))
      refine Seg.step rfl rfl (Yd.move rfl) ?_
      refine Seg.nil ?_
      refine At.ofI (AtI.then_ (CdI.condT rfl (CdI.regionS rfl ?_)))
      refine Seg.step rfl rfl (Yd.load1 rfl rfl h1.row.head) ?_
      refine Seg.step rfl rfl (Yd.loadN rfl rfl rfl hB22.row) ?_
      refine Seg.buildSliceV rfl rfl rfl rfl rfl rfl rfl rfl rfl rfl (fun w25 b25 hE25 hB25 hb25 hO25 => ?_)
      have hlt25_0 := Nat.lt_of_lt_of_le hB22.lt hb25
      have hlt25_1 := Nat.le_trans hE21.size hb25
      have hlt25_2 := Nat.le_trans hE17.size hb25
      have hlt25_3 := Nat.le_trans hE0.size hb25
      have hlt25_4 := Nat.lt_of_lt_of_le h1.lt hb25
      have hlt25_5 := Nat.le_trans h6.size hb25
      replace hW22 := Wr.trans hW22 (Ext.wr hE25 _)
      replace hB22 := hB22.ext hE25
      replace hE21 := Ext.trans hE21 hE25
      replace hE17 := Ext.trans hE17 hE25
      replace hUB := hUB.ext hE25
      replace hE0 := Ext.trans hE0 hE25
      replace h1 := h1.ext hE25
      replace h6 := Ext.trans h6 hE25
      (have hOx := own_ext k2 hE0; have hB1 := Bx.ext k1 hE0; have hEb := hE0; refine Seg.appendAt (news := svV (.slice ua sv.names.length uc, sv)) (m' := 1) rfl rfl rfl rfl rfl rfl rfl rfl rfl hOx (own_sl (by assumption)) (by simp [svV, Value.oneCell']) (Below.size (Ext.trans k6 hE0)) (by omega) rfl (fun vn w26 hN hG hAt => ?_))
      have hbo := hB1.keeps (hG.block _ hB1.lt (fun e => own3_ne_bx hOx hB1 e.symm))
      have hUB1 := hUB.1
      have hUoff : OffP q (.slice ua sv.names.length uc) := OffP.above hu2.1 (fun r hr => by
        rcases (h7 r).1 hr with rfl | hr | hr
        · exact Bx.lt k1
        · exact (World.ownsRow.lt k2 r hr).2
        · exact Nat.lt_of_lt_of_le hr (Below.size k6))
      obtain ⟨va, vc, rfl⟩ := own_shape hN
      have hN' := own3_snoc (x := (.slice ua sv.names.length uc, sv)) hN
      have hnb := own3_ne_bx hN' hbo
      refine Seg.store1h rfl rfl rfl rfl rfl hbo (by simp) (fun w91 hW hb91 => ?_)
      have hO91 := own_wr hN' hW hnb
      have tot : Kept q (fun r => r = b8 ∨ ownP (.slice va (X.length + 1) vc) r ∨ r < w.heap.size) W1 w91 :=
        Kept.trans_ext hEb (((Kept.grown hG hAt).mono (q := q) (q' := fun r => r = b8 ∨ ownP (.slice va (X.length + 1) vc) r ∨ r < w.heap.size) (fun r h => (h7 r).2 (.inr (.inl h))) (fun r h => h.elim (fun h => .inr ((h7 r).2 (.inl h))) (fun h => h.elim .inl (fun h => .inr ((h7 r).2 (.inr (.inr h))))))).trans
          ((Kept.wr hW).mono (fun r h => .inl h) (fun r h => .inr h)))
      have hS91 := SvOk.kept k4 tot
      have hk2 : Kept q (fun r => r = b8 ∨ ownP (.slice va (X.length + 1) vc) r ∨ r < w.heap.size) _ w91 := (((Kept.grown hG hAt).mono (q := q) (q' := fun r => r = b8 ∨ ownP (.slice va (X.length + 1) vc) r ∨ r < w.heap.size) (fun r h => (h7 r).2 (.inr (.inl h))) (fun r h => h.elim (fun h => .inr ((h7 r).2 (.inl h))) (fun h => h.elim .inl (fun h => .inr ((h7 r).2 (.inr (.inr h))))))).trans
          ((Kept.wr hW).mono (fun r h => .inl h) (fun r h => .inr h)))
      have hu91 := hUB1.keptP hk2 hUoff
      have ho91 := hUoff.kept hUB1 hk2
      have hE91 : Ext w w91 := Below.wr' (Below.own' (Ext.trans k6 hEb) hOx hG) hW h8
      refine Seg.nil (At.ofI (AtI.blk ?_))
      exact .mk fun a ha => ⟨rfl, _, ⟨X ++ [((Value.slice ua sv.names.length uc, sv) : Sv)], _, hb91, hO91, hS91.snoc hu91 ho91, by rw [List.map_append, h5, hst]; rfl, hE91, fun r => Iff.rfl, h8, by simp; omega⟩, tot⟩
  · rintro D q W1 ⟨X, v, h1, h2, h4, h5, h6, h7, h8, h9⟩ hq hK hD
    refine AtI.blk (AtI.thenP (CdI.seq (CdI.region (SegI.step rfl rfl rfl (Yd.load1 rfl rfl h1.row.head) (SegI.step rfl rfl rfl (Yd.assign rfl) (SegI.nil (AtI.then_ (CdI.ret ?_))))))))
    have hg : W1.grownBy (W1.putObj D (.deferred none)) (some D) := grown_put
    refine AtI.retD Try.results13 hK (.tmp rfl .nil) ⟨⟨X, ?_, ?_, ?_⟩, ?_⟩
    · exact h2.kept hg (.inr (fun e => hq ((h7 D).2 (.inr (.inl e)))))
    · exact fun x hx => ⟨Sl.turned (h4 x hx).1 hg (fun r' e => by cases e; exact ⟨_, hK, rfl⟩), (h4 x hx).2.sub (fun r h => (h7 r).2 (.inr h))⟩
    · rw [h5, List.take_length]; rfl
    · exact Below.grown h6 hg h6.size (fun k e => by cases e; exact Nat.le_trans (Below.size ‹_›) hD)
end Go.Proofs.Ytbmgigbedmgfpaa
