/- The lines that are told, gathered: the law's 'told'. -/
import Derived.Test.YtbmgigbedmgfpaaAll
import Derived.Test.YtbmgigbedmgfpaaWkw
namespace Go.Proofs.Ytbmgigbedmgfpaa
open Go Go.RowKit
/-- A line: its number, its fields' value, and its fields. -/
abbrev Ln := Nat × Value × List (List UInt8)
def lnV (x : Ln) : List Value := [.int .i64 (x.1 : Int), x.2.1]
theorem lnV_len (x : Ln) : (lnV x).length = 2 := rfl
def lnD (x : Ln) : Nat × List (List UInt8) := (x.1, x.2.2)
def LnsOk (p : Nat → Prop) (w : World) (X : List Ln) : Prop := ∀ x ∈ X, NameAt w x.2.1 x.2.2 ∧ OffP p x.2.1
theorem LnsOk.ext {p : Nat → Prop} {w w' : World} {X : List Ln} (h : LnsOk p w X) (hE : Ext w w') : LnsOk p w' X := fun x hx => ⟨(h x hx).1.ext hE, (h x hx).2⟩
theorem LnsOk.kept {p p' : Nat → Prop} {w w' : World} {X : List Ln} (h : LnsOk p w X) (hk : Kept p p' w w') : LnsOk p' w' X := fun x hx => ⟨(h x hx).1.keptP hk (h x hx).2, (h x hx).2.kept (h x hx).1 hk⟩
theorem LnsOk.snoc {p : Nat → Prop} {w : World} {X : List Ln} {x : Ln} (h : LnsOk p w X) (h1 : NameAt w x.2.1 x.2.2) (h2 : OffP p x.2.1) : LnsOk p w (X ++ [x]) := fun y hy => by
  rcases List.mem_append.1 hy with hy | hy
  · exact h y hy
  · rw [List.mem_singleton.1 hy]; exact ⟨h1, h2⟩
theorem own_ne_bx {W : World} {base e k m bo : Nat} {v u : Value} {cs : List Value} (h : W.ownsRow base e (2 * k) v m cs) (hb : Bx W bo [u]) : ¬ ownP v bo := fun hp => by
  obtain ⟨T, hT⟩ := hb
  rcases h.2 with ⟨rfl, _⟩ | ⟨g, cap, cur, rfl, _, hg, _, _, hs, _⟩
  · cases hp
  · simp only [ownP, Value.ownBlock, Option.some.injEq] at hp
    subst hp
    rw [hT] at hg
    simp only [Option.some.injEq, Obj.cells.injEq] at hg
    have := congrArg Array.size hg.1
    rw [hs] at this
    simp at this
    have h2 : cap * (2 * k) = 2 * (cap * k) := by rw [Nat.mul_left_comm]
    omega
/-- What the gathering holds behind k lines. -/
def ToldJ (w : World) (bo bm : Nat) (most : Int) (L : List (Nat × List (List UInt8))) : Nat → (Nat → Prop) → World → Prop := fun k p W =>
  ∃ (X : List Ln) (v : Value), Bx W bo [v] ∧ W.ownsRow w.heap.size 28 2 v X.length (X.flatMap lnV) ∧ Bx W bm [.int .i64 most] ∧ LnsOk p W X ∧ X.map lnD = L.take k ∧ Ext w W ∧ (∀ r, p r ↔ r = bo ∨ ownP v r ∨ r < w.heap.size) ∧ ¬ p bm ∧ w.heap.size ≤ bo
theorem told_abides (w W0 : World) (bo bm : Nat) (most : Int) (L : List (Nat × List (List UInt8))) (h : Ext w W0) : Abides W0.heap.size (ToldJ w bo bm most L) := by
  refine ⟨?_, ?_, ?_⟩
  · rintro k p W ⟨X, v, h1, h2, h3, h4, h5, h6, h7, h8⟩ r hr
    rcases (h7 r).1 hr with rfl | hr | hr
    · exact h1.lt
    · exact (h2.lt r hr).2
    · exact Nat.lt_of_lt_of_le hr h6.size
  · rintro k p W W' ⟨X, v, h1, h2, h3, h4, h5, h6, h7, h8⟩ hE
    exact ⟨X, v, h1.ext hE, own_ext h2 hE, h3.ext hE, h4.ext hE, h5, h6.trans hE, h7, h8⟩
  · rintro k p W W' r o ⟨X, v, h1, h2, h3, h4, h5, h6, h7, h8⟩ hg hB hp ho hoc
    have n1 : bo ≠ r := fun e => by subst e; exact h1.cells ho hoc
    have n2 : bm ≠ r := fun e => by subst e; exact h3.cells ho hoc
    have n3 : v.ownBlock ≠ some r := fun e => hp ((h7 r).2 (.inr (.inl e)))
    refine ⟨X, v, h1.keeps (hg.block _ h1.lt (by simpa using n1)), h2.kept hg (.inr n3), h3.keeps (hg.block _ h3.lt (by simpa using n2)), fun x hx => ⟨Sl.turned (h4 x hx).1 hg (fun r' e => by cases e; exact ⟨o, ho, hoc⟩), (h4 x hx).2⟩, h5, Below.grown h6 hg h6.size (fun k e => by cases e; exact Nat.le_trans h.size hB), h7, h8⟩
theorem Below.wr' {a w w' : World} {b : Nat} (h : Ext a w) (hg : Wr b w w') (hb : a.heap.size ≤ b) : Ext a w' := Below.grown h hg h.size (fun k hk => by cases hk; exact hb)
theorem Below.own' {a w w' : World} {e k m : Nat} {v : Value} {cs : List Value} (h : Ext a w) (ho : w.ownsRow a.heap.size e k v m cs) (hg : w.grownBy w' v.ownBlock) : Ext a w' := Ext.own h ho (Nat.le_refl _) hg
theorem told1_any (w W : World) (bo bm : Nat) (most : Int) (L : List (Nat × List (List UInt8))) (k : Nat) (p : Nat → Prop) (n : Nat) (fs : List (List UInt8)) (v : Value) (hJ : ToldJ w bo bm most L k p W) (hL : L[k]? = some (n, fs)) (hm : (L.length : Int) < most) (hm' : L.length ≤ 1000001) (hv : NameAt W v fs) (ho : OffP p v) :
    Ret Try.prog 19 #[.int .i64 (n : Int), v, .pointer (some ⟨bo, 0, none⟩), .pointer (some ⟨bm, 0, none⟩)] W fun r W' => r = .bool true ∧ ∃ p', ToldJ w bo bm most L (k + 1) p' W' ∧ Kept p p' W W' := by
  obtain ⟨X, u, h1, h2, h3, h4, h5, h6, h7, h8⟩ := hJ
  have hE0 := Ext.refl W
  have hvk := hv
  have k4 : Keep (LnsOk p W X) := h4
  have k3 : Keep (Bx W bm [.int .i64 most]) := h3
  have hXL : X.length = k := by
    have hkl : k < L.length := (List.getElem?_eq_some_iff.1 hL).1
    have := congrArg List.length h5
    simp at this; omega
  have hkL : k < L.length := (List.getElem?_eq_some_iff.1 hL).1
  obtain ⟨va, vc, rfl, -, -, -⟩ := hvk
  refine Ret.body Try.func19 rfl Try.ntmps19 rfl ?_
  refine Cd.seq ?_
  refine Cd.region ?_
  refine Seg.step rfl rfl (Yd.assign rfl) ?_
  refine Seg.nil ?_
  refine At.then_ ?_
  refine Cd.seq ?_
  refine Cd.region ?_
  refine Seg.step rfl rfl (Yd.load1 rfl rfl h1.row.head) ?_
  refine Seg.step rfl rfl (Yd.move rfl) ?_
  refine Seg.step rfl rfl (Yd.move rfl) ?_
  refine Seg.step rfl rfl (Yd.buildT (cs := _ :: _ :: []) 2 rfl rfl rfl rfl rfl) ?_
  refine Seg.buildSliceV rfl rfl rfl rfl rfl rfl rfl rfl rfl rfl (fun w20 b20 hE20 hB20 hb20 hO20 => ?_)
  have hlt20_0 := Nat.lt_of_lt_of_le h1.lt hb20
  have hlt20_1 := Nat.lt_of_lt_of_le h3.lt hb20
  have hlt20_2 := Nat.le_trans h6.size hb20
  have hlt20_3 := Nat.le_trans hE0.size hb20
  replace h1 := h1.ext hE20
  replace h2 := own_ext h2 hE20
  replace h3 := h3.ext hE20
  replace h4 := h4.ext hE20
  replace h6 := Ext.trans h6 hE20
  replace hE0 := Ext.trans hE0 hE20
  (refine Seg.appendAt (news := lnV (n, .slice va fs.length vc, fs)) (m' := 1) rfl rfl rfl rfl rfl rfl rfl rfl rfl h2 (own_sl hO20) (by simp [lnV, Value.oneCell']) (Below.size h6) (by omega) rfl (fun v21 w21 hN hG hAt => ?_))
  have hbo : Bx w21 bo [u] := h1.keeps (hG.block _ h1.lt (fun e => own_ne_bx (k := 1) h2 h1 e.symm))
  obtain ⟨ua, uc, rfl⟩ := own_shape hN
  have hN' : w21.ownsRow w.heap.size 28 2 (.slice ua (X.length + 1) uc) (X.length + 1) ((X ++ [((n, Value.slice va fs.length vc, fs) : Ln)]).flatMap lnV) := by simpa using hN
  have hnb := own_ne_bx (k := 1) hN' hbo
  refine Seg.store1h rfl rfl rfl rfl rfl hbo (by simp) (fun w22 hW hb22 => ?_)
  have hb22 : Bx w22 bo [.slice ua (X.length + 1) uc] := hb22
  have hO22 := own_wr hN' hW hnb
  have tot : Kept p (fun r => r = bo ∨ ownP (.slice ua (X.length + 1) uc) r ∨ r < w.heap.size) W w22 :=
    Kept.trans_ext hE0 (((Kept.grown hG hAt).mono (q := p) (q' := fun r => r = bo ∨ ownP (.slice ua (X.length + 1) uc) r ∨ r < w.heap.size) (fun r h => (h7 r).2 (.inr (.inl h))) (fun r h => h.elim (fun h => .inr ((h7 r).2 (.inl h))) (fun h => h.elim .inl (fun h => .inr ((h7 r).2 (.inr (.inr h))))))).trans
      ((Kept.wr hW).mono (fun r h => .inl h) (fun r h => .inr h)))
  have hL4 := LnsOk.kept k4 tot
  have hb3 : Bx w22 bm [.int .i64 most] := Bx.keeps k3 (tot.block _ (Bx.lt k3) h8.1)
  have hv22 := hv.keptP tot ho
  have ho22 := ho.kept hv tot
  have hE22 : Ext w w22 := Below.wr' (Below.own' h6 h2 hG) hW h8.2
  clear h1 h2 h3 h4 h6 hE0 hB20 hO20 hbo hN hN' hG
  have hE0 := Ext.refl w22
  have hfin : ((X.length + 1 : Nat) : Int) < most := by omega
  refine Seg.nil ?_
  refine At.then_ ?_
  refine Cd.seq ?_
  refine Cd.region ?_
  refine Seg.step rfl rfl (Yd.load1 rfl rfl hb22.row.head) ?_
  refine Seg.step rfl rfl (Yd.lenS rfl rfl) ?_
  refine Seg.step rfl rfl (Yd.load1 rfl rfl hb3.row.head) ?_
  refine Seg.step rfl rfl (Yd.lss rfl rfl) ?_
  refine Seg.step rfl rfl (Yd.assign rfl) ?_
  refine Seg.nil ?_
  refine At.then_ ?_
  refine Cd.ret ?_
  exact At.ret Try.results19 (.tmp rfl .nil) ⟨(bT hfin).symm, _, ⟨X ++ [((n, Value.slice va fs.length vc, fs) : Ln)], _, hb22, by simpa using hO22, hb3, hL4.snoc hv22 ho22, by rw [List.map_append, h5, List.take_add_one, hL]; rfl, hE22, fun r => Iff.rfl, fun h => by (rcases h with h | h); (exact h8.1 ((h7 bm).2 (.inl h))); (exact (tot.own _ (.inr h)).elim h8.1 (fun h => by have := Bx.lt k3; omega)), h8.2⟩, tot⟩
/-- The lines of a text, gathered. -/
theorem told_any (s : List UInt8) (any : Bool) (most : Int) (w : World) (hl : s.length ≤ 1000000) (hm : ((allB any s).length : Int) < most) :
    Ret Try.prog 8 #[.string ⟨s.toArray⟩, .bool any, .int .i64 most] w fun r w' => (∃ (X : List Ln) (v : Value), r = .tuple #[v, .bool true] ∧ w'.ownsRow w.heap.size 28 2 v X.length (X.flatMap lnV) ∧ LnsOk (fun r => ownP v r ∨ r < w.heap.size) w' X ∧ X.map lnD = allB any s) ∧ Ext w w' := by
  have hE0 := Ext.refl w
  have hN : (allB any s).length ≤ 1000001 := Nat.le_trans (all_le any _ 1) (Nat.le_trans (lines_le s) (by omega))
  refine Ret.body Try.func8 rfl Try.ntmps8 rfl ?_
  refine Cd.seq ?_
  refine Cd.region ?_
  refine Seg.box rfl rfl rfl (fun w3 b3 hE3 hB3 hb3 => ?_)
  have hlt3_0 := Nat.le_trans hE0.size hb3
  replace hE0 := Ext.trans hE0 hE3
  refine Seg.step rfl rfl (Yd.assign rfl) ?_
  refine Seg.step rfl rfl (Yd.assign rfl) ?_
  refine Seg.nil ?_
  refine At.then_ ?_
  refine Cd.seq ?_
  refine Cd.region ?_
  refine Seg.alloc rfl rfl rfl (fun w10 b10 hE10 hB10 hb10 => ?_)
  have hlt10_0 := Nat.le_trans hE3.size hb10
  have hlt10_1 := Nat.lt_of_lt_of_le hB3.lt hb10
  have hlt10_2 := Nat.le_trans hE0.size hb10
  replace hE3 := Ext.trans hE3 hE10
  replace hB3 := hB3.ext hE10
  replace hE0 := Ext.trans hE0 hE10
  refine Seg.nil ?_
  refine At.then_ ?_
  refine Cd.seq ?_
  refine Cd.region ?_
  refine Seg.step rfl rfl (Yd.move rfl) ?_
  refine Seg.step rfl rfl (Yd.move rfl) ?_
  (have hlt10 := Bx.lt hB10; refine Seg.call rfl rfl (own_of rfl) rfl (allf_any s any _) ?_; rintro _ w17 ⟨bs, bc, rfl, hbs, hbc, hls, hlc, hE17⟩)
  replace hE10 := Ext.trans hE10 hE17
  replace hB10 := hB10.ext hE17
  replace hE3 := Ext.trans hE3 hE17
  replace hB3 := hB3.ext hE17
  replace hE0 := Ext.trans hE0 hE17
  refine Seg.step rfl rfl (Yd.assign rfl) ?_
  refine Seg.nil ?_
  refine At.then_ ?_
  refine Cd.seq ?_
  refine Cd.seq ?_
  refine Cd.region ?_
  refine Seg.step rfl rfl (Yd.move rfl) ?_
  (refine Seg.step rfl rfl (Yd.eqlNilF rfl rfl rfl) ?_)
  refine Seg.nil ?_
  refine At.then_ ?_
  refine Cd.condF rfl ?_
  refine Cd.skip ?_
  refine At.then_ ?_
  refine Cd.seq ?_
  refine Cd.region ?_
  refine Seg.step rfl rfl (Yd.move rfl) ?_
  refine Seg.step rfl rfl (Yd.makeFunc rfl rfl) ?_
  have hb3 : b3 < b10 := by omega
  have hb10 : w.heap.size ≤ b10 := by omega
  have hX : Ext w w17 := hE0
  have hit := all1_any s any bs bc w17 hbs hbc hl (.func 19) #[] #[.pointer (some ⟨b10, 0, none⟩), .pointer (some ⟨b3, 0, none⟩)] (ToldJ w b10 b3 most (allB any s)) (fun r => r = b10 ∨ r < w.heap.size) w17 (Ext.refl _)
    (told_abides w w17 b10 b3 most (allB any s) hE0)
    ⟨[], .slice none 0 0, hB10, World.ownsRow_nil _ _ _ _, hB3, fun _ h => (by cases h), rfl, hE0, fun r => ⟨fun h => h.elim .inl (fun h => .inr (.inr h)), fun h => h.elim .inl (fun h => h.elim (fun h => by cases h) .inr)⟩, fun h => by rcases h with h | h <;> omega, hb10⟩
    (fun r hr => by simp at hr; have := hB10.lt; rcases hr with rfl | rfl <;> (rintro (h | h) <;> omega))
    (fun k p W args hk hJ hA => by
      obtain ⟨n, fs, v, h1, rfl, h2, h3, -⟩ := hA
      exact .inl ⟨19, _, rfl, own_of rfl, told1_any w W b10 b3 most (allB any s) k p n fs v hJ h1 hm hN h2 h3⟩)
  refine Seg.callv (first := []) (cap := [.pointer (some ⟨bs, 0, none⟩), .pointer (some ⟨bc, 0, none⟩)]) rfl rfl rfl (own_of rfl) rfl hit ?_
  rintro _ w18 ⟨p', X, v, h1, h2, h3, h4, h5, h6, h7, h8, h9⟩
  clear hE0 hbs hbc hB10 hB3
  have hE0 := Ext.refl w18
  have hfin : X.map lnD = allB any s := by rw [h5, List.take_length]
  have hL : LnsOk (fun r => ownP v r ∨ r < w.heap.size) w18 X := fun x hx => ⟨(h4 x hx).1, (h4 x hx).2.sub (fun r h => (h7 r).2 (.inr h))⟩
  refine Seg.nil ?_
  refine At.then_ ?_
  refine Cd.seq ?_
  refine Cd.region ?_
  refine Seg.step rfl rfl (Yd.load1 rfl rfl h1.row.head) ?_
  refine Seg.step rfl rfl (Yd.assign rfl) ?_
  refine Seg.step rfl rfl (Yd.assign rfl) ?_
  refine Seg.nil ?_
  refine At.then_ ?_
  refine Cd.ret ?_
  exact At.ret Try.results8 (.tmp rfl (.tmp rfl .nil)) ⟨⟨X, v, rfl, by assumption, by assumption, hfin⟩, by assumption⟩
end Go.Proofs.Ytbmgigbedmgfpaa
