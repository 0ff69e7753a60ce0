/- The reference's bytes: cuts, small letters, numbers. -/
import Derived.Test.YtbmgigbedmgfpaaWks20
namespace Go.Proofs.Ytbmgigbedmgfpaa
open Go Go.RowKit
theorem cutB_hit {c : UInt8} : ∀ {l : List UInt8} {i : Nat}, i < l.length → c ∉ l.take i → l.getD i 0 = c → cutB c l = (l.take i, l.drop (i + 1), true)
  | [], i, h, _, _ => by simp at h
  | x :: r, 0, _, _, h => by
    have hx : x = c := h
    simp [cutB, hx]
  | x :: r, i + 1, h, hn, hc => by
    have hx : ¬ x = c := fun e => hn (by rw [List.take_succ_cons, e]; exact List.mem_cons_self)
    have ih := cutB_hit (l := r) (i := i) (by simpa using h) (fun hm => hn (by rw [List.take_succ_cons]; exact List.mem_cons_of_mem _ hm)) (by simpa using hc)
    rw [cutB, if_neg hx, ih]
    simp
theorem cutB_none {c : UInt8} : ∀ {l : List UInt8}, c ∉ l → cutB c l = (l, [], false)
  | [], _ => rfl
  | x :: r, h => by
    have hx : ¬ x = c := fun e => h (by rw [e]; exact List.mem_cons_self)
    rw [cutB, if_neg hx, cutB_none (fun hm => h (List.mem_cons_of_mem _ hm))]
theorem not_in {c : UInt8} {l : List UInt8} {i : Nat} (hi : i < l.length) (h : c ∉ l.take i) (hc : ¬ l.getD i 0 = c) : c ∉ l.take (i + 1) := fun hm => by
  rw [take_get hi] at hm
  rcases List.mem_append.1 hm with hm | hm
  · exact h hm
  · exact hc (List.mem_singleton.1 hm).symm
theorem rcut_any (l : List UInt8) (c : UInt8) (w : World) (hl : l.length ≤ 1000000) : Ret Try.prog 22 #[.string ⟨l.toArray⟩, .int .u8 c.toNat] w fun v w' => v = .tuple #[.string ⟨(cutB c l).1.toArray⟩, .string ⟨(cutB c l).2.1.toArray⟩, .bool (cutB c l).2.2] ∧ Ext w w' := by
  have hE0 := Ext.refl w
  refine Ret.body Try.func22 rfl Try.ntmps22 rfl ?_
  refine Cd.seq ?_
  refine Cd.region ?_
  refine Seg.step rfl rfl (Yd.assign rfl) ?_
  refine Seg.step rfl rfl (Yd.assign rfl) ?_
  refine Seg.step rfl rfl (Yd.assign rfl) ?_
  refine Seg.nil ?_
  refine At.then_ ?_
  refine Cd.seq ?_
  refine Cd.seq ?_
  refine Cd.region ?_
  refine Seg.step rfl rfl (Yd.assign rfl) ?_
  refine Seg.nil ?_
  refine At.then_ ?_
  refine Cd.block ?_
  refine Cd.loop (σ := Nat) (fun i => [(0, .string ⟨l.toArray⟩), (1, .int .u8 c.toNat), (4, .string ⟨#[]⟩), (5, .string ⟨#[]⟩), (6, .bool false), (7, .int .i64 (i : Int))])
    (fun i w' => i ≤ l.length ∧ c ∉ l.take i ∧ Ext w w') (fun i => l.length - i) 0 (.cons rfl (.cons rfl (.cons rfl (.cons rfl (.cons rfl (.cons rfl (.nil _))))))) ⟨Nat.zero_le _, by simp, hE0⟩ ?_
  clear hE0
  rintro i w0 ⟨hi, hT, hE0⟩
  by_cases hlt : i < l.length
  · by_cases he : l.getD i 0 = c
    · have he' : ((l.getD i 0).toNat : Int) = c.toNat := by rw [he]
      have hR := cutB_hit hlt hT he
      rw [hR]
      refine Cd.seq ?_
      refine Cd.seq ?_
      refine Cd.region ?_
      refine Seg.step rfl rfl (Yd.move rfl) ?_
      refine Seg.step rfl rfl (Yd.move rfl) ?_
      refine Seg.step rfl rfl (Yd.lenStr rfl rfl) ?_
      refine Seg.step rfl rfl (Yd.lss rfl rfl) ?_
      refine Seg.nil ?_
      refine At.then_ ?_
      refine Cd.condk rfl (fun h10 => ?_) (fun h10 => ?_)
      · refine Cd.skip ?_
        refine At.then_ ?_
        refine Cd.seq ?_
        refine Cd.block ?_
        refine Cd.seq ?_
        refine Cd.region ?_
        refine Seg.step rfl rfl (Yd.move rfl) ?_
        refine Seg.step rfl rfl (Yd.move rfl) ?_
        refine Seg.step rfl rfl (Yd.indexStr rfl rfl rfl (NatOf.cast _) (by omega)) ?_
        refine Seg.step rfl rfl (Yd.move rfl) ?_
        refine Seg.step rfl rfl (Yd.eql rfl rfl) ?_
        refine Seg.nil ?_
        refine At.then_ ?_
        refine Cd.condk rfl (fun h25 => ?_) (fun h25 => ?_)
        · refine Cd.seq ?_
          refine Cd.quiet (by kernel_rfl) (by kernel_rfl) ?_
          refine SegQ.step rfl rfl (fun w' hw' => Yd.move rfl) ?_
          refine SegQ.step rfl rfl (fun w' hw' => Yd.move rfl) ?_
          refine SegQ.step rfl rfl (fun w' hw' => Yd.slStrH rfl rfl rfl (NatOf.cast _) (by omega)) ?_
          refine SegQ.step rfl rfl (fun w' hw' => Yd.move rfl) ?_
          refine SegQ.step rfl rfl (fun w' hw' => Yd.move rfl) ?_
          refine SegQ.step rfl rfl (fun w' hw' => Yd.addI rfl rfl (by omega)) ?_
          refine SegQ.step rfl rfl (fun w' hw' => Yd.slStrL rfl rfl rfl (NatOf.add (NatOf.cast _) (NatOf.cast 1)) (by omega)) ?_
          refine SegQ.step rfl rfl (fun w' hw' => Yd.assign rfl) ?_
          refine SegQ.step rfl rfl (fun w' hw' => Yd.assign rfl) ?_
          refine SegQ.step rfl rfl (fun w' hw' => Yd.assign rfl) ?_
          refine SegQ.nil fun w39 hE39 => ?_
          replace hE0 := Ext.trans hE0 hE39
          refine At.then_ ?_
          refine Cd.ret ?_
          refine At.blk_ret ?_
          refine At.then_ret ?_
          refine At.then_ret ?_
          refine At.blk_ret ?_
          refine At.then_ret ?_
          exact At.ret Try.results22 (.tmp rfl (.tmp rfl (.tmp rfl .nil))) ⟨rfl, by assumption⟩
        · exfalso; omega
      · exfalso; omega
    · have he' : ¬ ((l.getD i 0).toNat : Int) = c.toNat := fun h => he (u8_ne.1 h)
      have hT' := not_in hlt hT he
      refine Cd.seq ?_
      refine Cd.seq ?_
      refine Cd.region ?_
      refine Seg.step rfl rfl (Yd.move rfl) ?_
      refine Seg.step rfl rfl (Yd.move rfl) ?_
      refine Seg.step rfl rfl (Yd.lenStr rfl rfl) ?_
      refine Seg.step rfl rfl (Yd.lss rfl rfl) ?_
      refine Seg.nil ?_
      refine At.then_ ?_
      refine Cd.condk rfl (fun h10 => ?_) (fun h10 => ?_)
      · refine Cd.skip ?_
        refine At.then_ ?_
        refine Cd.seq ?_
        refine Cd.block ?_
        refine Cd.seq ?_
        refine Cd.region ?_
        refine Seg.step rfl rfl (Yd.move rfl) ?_
        refine Seg.step rfl rfl (Yd.move rfl) ?_
        refine Seg.step rfl rfl (Yd.indexStr rfl rfl rfl (NatOf.cast _) (by omega)) ?_
        refine Seg.step rfl rfl (Yd.move rfl) ?_
        refine Seg.step rfl rfl (Yd.eql rfl rfl) ?_
        refine Seg.nil ?_
        refine At.then_ ?_
        refine Cd.condk rfl (fun h25 => ?_) (fun h25 => ?_)
        · exfalso; omega
        · refine Cd.skip ?_
          refine At.blk ?_
          refine At.then_ ?_
          refine Cd.region ?_
          refine Seg.step rfl rfl (Yd.move rfl) ?_
          refine Seg.step rfl rfl (Yd.addI rfl rfl (by omega)) ?_
          refine Seg.step rfl rfl (Yd.assign rfl) ?_
          refine Seg.nil ?_
          exact At.round (i + 1) (.cons rfl (.cons rfl (.cons rfl (.cons rfl (.cons rfl (.cons rfl (.nil _))))))) ⟨hlt, hT', hE0⟩ (Nat.sub_lt_sub_left hlt (Nat.lt_succ_self i))
      · exfalso; omega
  · have hil : l.take i = l := List.take_of_length_le (by omega)
    rw [hil] at hT
    rw [cutB_none hT]
    refine Cd.seq ?_
    refine Cd.seq ?_
    refine Cd.region ?_
    refine Seg.step rfl rfl (Yd.move rfl) ?_
    refine Seg.step rfl rfl (Yd.move rfl) ?_
    refine Seg.step rfl rfl (Yd.lenStr rfl rfl) ?_
    refine Seg.step rfl rfl (Yd.lss rfl rfl) ?_
    refine Seg.nil ?_
    refine At.then_ ?_
    refine Cd.condk rfl (fun h10 => ?_) (fun h10 => ?_)
    · exfalso; omega
    · refine Cd.exit ?_
      refine At.then_exit ?_
      refine At.then_exit ?_
      refine At.blk_same ?_
      refine At.then_ ?_
      refine Cd.seq ?_
      refine Cd.region ?_
      refine Seg.step rfl rfl (Yd.move rfl) ?_
      refine Seg.step rfl rfl (Yd.assign rfl) ?_
      refine Seg.step rfl rfl (Yd.assign rfl) ?_
      refine Seg.step rfl rfl (Yd.assign rfl) ?_
      refine Seg.nil ?_
      refine At.then_ ?_
      refine Cd.ret ?_
      exact At.ret Try.results22 (.tmp rfl (.tmp rfl (.tmp rfl .nil))) ⟨rfl, by assumption⟩
theorem rlower_any (l : List UInt8) (w : World) (hl : l.length ≤ 1000000) : Ret Try.prog 33 #[.string ⟨l.toArray⟩] w fun v w' => v = .string ⟨(lowS l).toArray⟩ ∧ Ext w w' := by
  have hE0 := Ext.refl w
  refine Ret.body Try.func33 rfl Try.ntmps33 rfl ?_
  refine Cd.seq ?_
  refine Cd.region ?_
  refine Seg.step rfl rfl (Yd.assign rfl) ?_
  refine Seg.nil ?_
  refine At.then_ ?_
  refine Cd.seq ?_
  refine Cd.region ?_
  refine Seg.step rfl rfl (Yd.assign rfl) ?_
  refine Seg.nil ?_
  refine At.then_ ?_
  refine Cd.seq ?_
  refine Cd.seq ?_
  refine Cd.region ?_
  refine Seg.step rfl rfl (Yd.assign rfl) ?_
  refine Seg.nil ?_
  refine At.then_ ?_
  refine Cd.block ?_
  refine Cd.loop (σ := Nat × Value) (fun s => [(0, .string ⟨l.toArray⟩), (3, s.2), (4, .int .i64 (s.1 : Int))])
    (fun s w' => s.1 ≤ l.length ∧ w'.ownsRow w.heap.size 5 1 s.2 s.1 (bytesV (lowS (l.take s.1))) ∧ Ext w w') (fun s => l.length - s.1) (0, .slice none 0 0) (.cons rfl (.cons rfl (.cons rfl (.nil _)))) ⟨Nat.zero_le _, World.ownsRow_nil _ _ _ _, hE0⟩ ?_
  clear hE0
  rintro ⟨i, v⟩ w0 ⟨hi, hO, hE0⟩
  simp only at hi hO ⊢
  by_cases hlt : i < l.length
  · have hlow : bytesV (lowS (l.take (i + 1))) = bytesV (lowS (l.take i)) ++ [.int .u8 (lowB (l.getD i 0)).toNat] := by rw [low_take hlt, bytesV_app]; rfl
    have hone : ∀ c ∈ [Value.int .u8 (lowB (l.getD i 0)).toNat], c.oneCell' = true := fun c hc => by rw [List.mem_singleton.1 hc]; rfl
    by_cases h1 : (65 : Int) ≤ (l.getD i 0).toNat
    · by_cases h2 : ((l.getD i 0).toNat : Int) ≤ 90
      · have hval := low_in h1 h2
        refine Cd.seq ?_
        refine Cd.seq ?_
        refine Cd.region ?_
        refine Seg.step rfl rfl (Yd.move rfl) ?_
        refine Seg.step rfl rfl (Yd.move rfl) ?_
        refine Seg.step rfl rfl (Yd.lenStr rfl rfl) ?_
        refine Seg.step rfl rfl (Yd.lss rfl rfl) ?_
        refine Seg.nil ?_
        refine At.then_ ?_
        refine Cd.condk rfl (fun h12 => ?_) (fun h12 => ?_)
        · refine Cd.skip ?_
          refine At.then_ ?_
          refine Cd.seq ?_
          refine Cd.block ?_
          refine Cd.seq ?_
          refine Cd.region ?_
          refine Seg.step rfl rfl (Yd.move rfl) ?_
          refine Seg.step rfl rfl (Yd.move rfl) ?_
          refine Seg.step rfl rfl (Yd.indexStr rfl rfl rfl (NatOf.cast _) (by omega)) ?_
          refine Seg.step rfl rfl (Yd.assign rfl) ?_
          refine Seg.nil ?_
          refine At.then_ ?_
          refine Cd.seq ?_
          refine Cd.seq ?_
          refine Cd.region ?_
          refine Seg.step rfl rfl (Yd.move rfl) ?_
          refine Seg.step rfl rfl (Yd.geq rfl rfl) ?_
          refine Seg.step rfl rfl (Yd.move rfl) ?_
          refine Seg.gsplitp rfl rfl (fun h32 => ?_) (fun h32 => ?_)
          · refine Seg.step rfl rfl (Yd.move rfl) ?_
            refine Seg.step rfl rfl (Yd.leq rfl rfl) ?_
            refine Seg.step rfl rfl (Yd.pickT rfl rfl) ?_
            refine Seg.nil ?_
            refine At.then_ ?_
            refine Cd.condk rfl (fun h39 => ?_) (fun h39 => ?_)
            · refine Cd.region ?_
              refine Seg.step rfl rfl (Yd.move rfl) ?_
              refine Seg.step rfl rfl (Yd.add rfl rfl) ?_
              refine Seg.step rfl rfl (Yd.assign rfl) ?_
              refine Seg.nil ?_
              refine At.then_ ?_
              refine Cd.region ?_
              refine Seg.step rfl rfl (Yd.move rfl) ?_
              refine Seg.step rfl rfl (Yd.move rfl) ?_
              refine Seg.buildSliceV rfl rfl rfl rfl rfl rfl rfl rfl rfl rfl (fun w50 b50 hE50 hB50 hb50 hO50 => ?_)
              have hlt50_0 := Nat.le_trans hE0.size hb50
              replace hO := own_ext hO hE50
              replace hE0 := Ext.trans hE0 hE50
              (refine Seg.append (news := [.int .u8 (lowB (l.getD i 0)).toNat]) (m' := 1) rfl rfl rfl rfl rfl rfl rfl rfl rfl hO (by rw [← hval]; exact own_sl (by assumption)) hone (Below.size hE0) (by omega) rfl (fun v51 w51 hN hG51 _ => ?_); replace hE0 := hE0.own hO (Nat.le_refl _) hG51; rw [← hlow] at hN)
              refine Seg.step rfl rfl (Yd.assign rfl) ?_
              refine Seg.nil ?_
              refine At.blk ?_
              refine At.then_ ?_
              refine Cd.region ?_
              refine Seg.step rfl rfl (Yd.move rfl) ?_
              refine Seg.step rfl rfl (Yd.addI rfl rfl (by omega)) ?_
              refine Seg.step rfl rfl (Yd.assign rfl) ?_
              refine Seg.nil ?_
              exact At.round (i + 1, _) (.cons rfl (.cons rfl (.cons rfl (.nil _)))) ⟨hlt, hN, hE0⟩ (Nat.sub_lt_sub_left hlt (Nat.lt_succ_self i))
            · exfalso; omega
          · exfalso; omega
        · exfalso; omega
      · have hval := low_out (fun h => h2 h.2)
        refine Cd.seq ?_
        refine Cd.seq ?_
        refine Cd.region ?_
        refine Seg.step rfl rfl (Yd.move rfl) ?_
        refine Seg.step rfl rfl (Yd.move rfl) ?_
        refine Seg.step rfl rfl (Yd.lenStr rfl rfl) ?_
        refine Seg.step rfl rfl (Yd.lss rfl rfl) ?_
        refine Seg.nil ?_
        refine At.then_ ?_
        refine Cd.condk rfl (fun h12 => ?_) (fun h12 => ?_)
        · refine Cd.skip ?_
          refine At.then_ ?_
          refine Cd.seq ?_
          refine Cd.block ?_
          refine Cd.seq ?_
          refine Cd.region ?_
          refine Seg.step rfl rfl (Yd.move rfl) ?_
          refine Seg.step rfl rfl (Yd.move rfl) ?_
          refine Seg.step rfl rfl (Yd.indexStr rfl rfl rfl (NatOf.cast _) (by omega)) ?_
          refine Seg.step rfl rfl (Yd.assign rfl) ?_
          refine Seg.nil ?_
          refine At.then_ ?_
          refine Cd.seq ?_
          refine Cd.seq ?_
          refine Cd.region ?_
          refine Seg.step rfl rfl (Yd.move rfl) ?_
          refine Seg.step rfl rfl (Yd.geq rfl rfl) ?_
          refine Seg.step rfl rfl (Yd.move rfl) ?_
          refine Seg.gsplitp rfl rfl (fun h32 => ?_) (fun h32 => ?_)
          · refine Seg.step rfl rfl (Yd.move rfl) ?_
            refine Seg.step rfl rfl (Yd.leq rfl rfl) ?_
            refine Seg.step rfl rfl (Yd.pickT rfl rfl) ?_
            refine Seg.nil ?_
            refine At.then_ ?_
            refine Cd.condk rfl (fun h39 => ?_) (fun h39 => ?_)
            · exfalso; omega
            · refine Cd.skip ?_
              refine At.then_ ?_
              refine Cd.region ?_
              refine Seg.step rfl rfl (Yd.move rfl) ?_
              refine Seg.step rfl rfl (Yd.move rfl) ?_
              refine Seg.buildSliceV rfl rfl rfl rfl rfl rfl rfl rfl rfl rfl (fun w46 b46 hE46 hB46 hb46 hO46 => ?_)
              have hlt46_0 := Nat.le_trans hE0.size hb46
              replace hO := own_ext hO hE46
              replace hE0 := Ext.trans hE0 hE46
              (refine Seg.append (news := [.int .u8 (lowB (l.getD i 0)).toNat]) (m' := 1) rfl rfl rfl rfl rfl rfl rfl rfl rfl hO (by rw [← hval]; exact own_sl (by assumption)) hone (Below.size hE0) (by omega) rfl (fun v47 w47 hN hG47 _ => ?_); replace hE0 := hE0.own hO (Nat.le_refl _) hG47; rw [← hlow] at hN)
              refine Seg.step rfl rfl (Yd.assign rfl) ?_
              refine Seg.nil ?_
              refine At.blk ?_
              refine At.then_ ?_
              refine Cd.region ?_
              refine Seg.step rfl rfl (Yd.move rfl) ?_
              refine Seg.step rfl rfl (Yd.addI rfl rfl (by omega)) ?_
              refine Seg.step rfl rfl (Yd.assign rfl) ?_
              refine Seg.nil ?_
              exact At.round (i + 1, _) (.cons rfl (.cons rfl (.cons rfl (.nil _)))) ⟨hlt, hN, hE0⟩ (Nat.sub_lt_sub_left hlt (Nat.lt_succ_self i))
          · exfalso; omega
        · exfalso; omega
    · have hval := low_out (fun h => h1 h.1)
      refine Cd.seq ?_
      refine Cd.seq ?_
      refine Cd.region ?_
      refine Seg.step rfl rfl (Yd.move rfl) ?_
      refine Seg.step rfl rfl (Yd.move rfl) ?_
      refine Seg.step rfl rfl (Yd.lenStr rfl rfl) ?_
      refine Seg.step rfl rfl (Yd.lss rfl rfl) ?_
      refine Seg.nil ?_
      refine At.then_ ?_
      refine Cd.condk rfl (fun h11 => ?_) (fun h11 => ?_)
      · refine Cd.skip ?_
        refine At.then_ ?_
        refine Cd.seq ?_
        refine Cd.block ?_
        refine Cd.seq ?_
        refine Cd.region ?_
        refine Seg.step rfl rfl (Yd.move rfl) ?_
        refine Seg.step rfl rfl (Yd.move rfl) ?_
        refine Seg.step rfl rfl (Yd.indexStr rfl rfl rfl (NatOf.cast _) (by omega)) ?_
        refine Seg.step rfl rfl (Yd.assign rfl) ?_
        refine Seg.nil ?_
        refine At.then_ ?_
        refine Cd.seq ?_
        refine Cd.seq ?_
        refine Cd.region ?_
        refine Seg.step rfl rfl (Yd.move rfl) ?_
        refine Seg.step rfl rfl (Yd.geq rfl rfl) ?_
        refine Seg.step rfl rfl (Yd.move rfl) ?_
        refine Seg.gsplitp rfl rfl (fun h31 => ?_) (fun h31 => ?_)
        · exfalso; omega
        · refine Seg.skip rfl rfl ?_
          refine Seg.skip rfl rfl ?_
          refine Seg.step rfl rfl (Yd.pickF rfl rfl) ?_
          refine Seg.nil ?_
          refine At.then_ ?_
          refine Cd.condF rfl ?_
          refine Cd.skip ?_
          refine At.then_ ?_
          refine Cd.region ?_
          refine Seg.step rfl rfl (Yd.move rfl) ?_
          refine Seg.step rfl rfl (Yd.move rfl) ?_
          refine Seg.buildSliceV rfl rfl rfl rfl rfl rfl rfl rfl rfl rfl (fun w44 b44 hE44 hB44 hb44 hO44 => ?_)
          have hlt44_0 := Nat.le_trans hE0.size hb44
          replace hO := own_ext hO hE44
          replace hE0 := Ext.trans hE0 hE44
          (refine Seg.append (news := [.int .u8 (lowB (l.getD i 0)).toNat]) (m' := 1) rfl rfl rfl rfl rfl rfl rfl rfl rfl hO (by rw [← hval]; exact own_sl (by assumption)) hone (Below.size hE0) (by omega) rfl (fun v45 w45 hN hG45 _ => ?_); replace hE0 := hE0.own hO (Nat.le_refl _) hG45; rw [← hlow] at hN)
          refine Seg.step rfl rfl (Yd.assign rfl) ?_
          refine Seg.nil ?_
          refine At.blk ?_
          refine At.then_ ?_
          refine Cd.region ?_
          refine Seg.step rfl rfl (Yd.move rfl) ?_
          refine Seg.step rfl rfl (Yd.addI rfl rfl (by omega)) ?_
          refine Seg.step rfl rfl (Yd.assign rfl) ?_
          refine Seg.nil ?_
          exact At.round (i + 1, _) (.cons rfl (.cons rfl (.cons rfl (.nil _)))) ⟨hlt, hN, hE0⟩ (Nat.sub_lt_sub_left hlt (Nat.lt_succ_self i))
      · exfalso; omega
  · have hil : l.take i = l := List.take_of_length_le (by omega)
    have hie : i = (lowS l).length := by rw [lowS_length]; omega
    rw [hil] at hO
    have hS := own_sl hO
    rw [hie] at hS
    refine Cd.seq ?_
    refine Cd.seq ?_
    refine Cd.region ?_
    refine Seg.step rfl rfl (Yd.move rfl) ?_
    refine Seg.step rfl rfl (Yd.move rfl) ?_
    refine Seg.step rfl rfl (Yd.lenStr rfl rfl) ?_
    refine Seg.step rfl rfl (Yd.lss rfl rfl) ?_
    refine Seg.nil ?_
    refine At.then_ ?_
    refine Cd.condk rfl (fun h10 => ?_) (fun h10 => ?_)
    · exfalso; omega
    · refine Cd.exit ?_
      refine At.then_exit ?_
      refine At.then_exit ?_
      refine At.blk_same ?_
      refine At.then_ ?_
      refine Cd.seq ?_
      refine Cd.region ?_
      refine Seg.step rfl rfl (Yd.move rfl) ?_
      (refine Seg.step rfl rfl (Yd.bts (l := lowS l) rfl rfl rfl rfl hS) ?_)
      refine Seg.step rfl rfl (Yd.assign rfl) ?_
      refine Seg.nil ?_
      refine At.then_ ?_
      refine Cd.ret ?_
      exact At.ret Try.results33 (.tmp rfl .nil) ⟨rfl, by assumption⟩
theorem rsame_any (a b : List UInt8) (w : World) (ha : a.length ≤ 1000000) (hb : b.length ≤ 1000000) : Ret Try.prog 24 #[.string ⟨a.toArray⟩, .string ⟨b.toArray⟩] w fun v w' => v = .bool (decide (lowS a = lowS b)) ∧ Ext w w' := by
  have hE0 := Ext.refl w
  refine Ret.body Try.func24 rfl Try.ntmps24 rfl ?_
  refine Cd.seq ?_
  refine Cd.region ?_
  refine Seg.step rfl rfl (Yd.assign rfl) ?_
  refine Seg.nil ?_
  refine At.then_ ?_
  refine Cd.seq ?_
  refine Cd.region ?_
  refine Seg.step rfl rfl (Yd.move rfl) ?_
  (refine Seg.call rfl rfl (own_of rfl) rfl (rlower_any a _ ha) ?_; rintro _ w9 ⟨rfl, hE9⟩)
  replace hE0 := Ext.trans hE0 hE9
  refine Seg.step rfl rfl (Yd.move rfl) ?_
  (refine Seg.call rfl rfl (own_of rfl) rfl (rlower_any b _ hb) ?_; rintro _ w11 ⟨rfl, hE11⟩)
  replace hE9 := Ext.trans hE9 hE11
  replace hE0 := Ext.trans hE0 hE11
  refine Seg.step rfl rfl (Yd.eqlS rfl rfl) ?_
  refine Seg.step rfl rfl (Yd.assign rfl) ?_
  refine Seg.nil ?_
  refine At.then_ ?_
  refine Cd.ret ?_
  exact At.ret Try.results24 (.tmp rfl .nil) ⟨rfl, by assumption⟩
end Go.Proofs.Ytbmgigbedmgfpaa
