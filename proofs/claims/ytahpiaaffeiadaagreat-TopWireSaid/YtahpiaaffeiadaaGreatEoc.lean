/- Numbers as octets: the walks of package octet. -/
import Derived.Test.YtahpiaaffeiadaaGreatWea
namespace Go.Proofs.YtahpiaaffeiadaaGreat
open Go Go.RowKit
/-- The last k octets of a number, the greatest first. -/
def beB : Nat → Nat → List UInt8
  | 0, _ => []
  | k + 1, n => UInt8.ofNat (n / 256 ^ k) :: beB k n
theorem beB_len (k n : Nat) : (beB k n).length = k := by
  induction k with
  | zero => rfl
  | succ k ih => simp [beB, ih]
/-- The number that octets are. -/
def deB (l : List UInt8) : Nat := l.foldl (fun n b => n * 256 + b.toNat) 0
theorem deB_from (l : List UInt8) (a : Nat) : l.foldl (fun n b => n * 256 + b.toNat) a = a * 256 ^ l.length + deB l := by
  induction l generalizing a with
  | nil => simp [deB]
  | cons b l ih =>
    rw [List.foldl_cons, ih]
    have e : deB (b :: l) = b.toNat * 256 ^ l.length + deB l := by
      conv => lhs; unfold deB
      rw [List.foldl_cons, ih]; simp
    rw [e, List.length_cons, Nat.pow_succ, Nat.add_mul, Nat.mul_assoc, Nat.mul_comm 256, Nat.add_assoc]
theorem deB_cons (b : UInt8) (l : List UInt8) : deB (b :: l) = b.toNat * 256 ^ l.length + deB l := by
  conv => lhs; unfold deB
  rw [List.foldl_cons, deB_from]; simp
theorem deB_snoc (l : List UInt8) (b : UInt8) : deB (l ++ [b]) = deB l * 256 + b.toNat := by simp [deB]
theorem deB_lt (l : List UInt8) : deB l < 256 ^ l.length := by
  induction l with
  | nil => simp [deB]
  | cons b l ih =>
    rw [deB_cons, List.length_cons, Nat.pow_succ]
    have := byte_lt b
    have h2 : b.toNat * 256 ^ l.length ≤ 255 * 256 ^ l.length := Nat.mul_le_mul_right _ (by omega)
    omega
theorem deB_beB (k n : Nat) : deB (beB k n) = n % 256 ^ k := by
  induction k with
  | zero => simp [beB, deB, Nat.mod_one]
  | succ k ih =>
    rw [beB, deB_cons, beB_len, ih, u8_of, Nat.pow_succ, Nat.mod_mul]
    rw [Nat.mul_comm, Nat.add_comm]
theorem held_any (i : Int) (w : World) (h : 0 ≤ i ∧ i ≤ 4) : Ret Tryz.prog 50 #[.int .i64 i] w fun v w' => v = .int .i64 i ∧ Ext w w' := by
  have hE0 := Ext.refl w
  refine Ret.body Tryz.func50 rfl Tryz.ntmps50 rfl ?_
  have h1 : (if i < (0 : Int) then 0 else i) = i := if_neg (by omega)
  have h2 : (if (4 : Int) < i then 4 else i) = i := if_neg (by omega)
  refine Cd.seq (Cd.region (Seg.step rfl rfl (Yd.assign rfl) (Seg.nil (At.then_ (Cd.seq (Cd.region (Seg.step rfl rfl (Yd.move rfl) ?_)))))))
  (refine Seg.step rfl rfl (Yd.max2I rfl rfl) ?_; rw [h1])
  refine Seg.step rfl rfl (Yd.min2 rfl rfl) (Seg.step rfl rfl (Yd.assign rfl) (Seg.nil (At.then_ (Cd.ret ?_))))
  exact At.ret Tryz.results50 (.tmp rfl .nil) ⟨congrArg (Value.int .i64) h2, hE0⟩
theorem rep_one (m : Nat) (v : Value) : reps m [v] = List.replicate m v := by
  induction m with
  | zero => rfl
  | succ m ih => rw [reps, ih, List.replicate_succ]; rfl
theorem set_mid {E : Type} (z v : E) (m : Nat) (l : List E) : (List.replicate (m + 1) z ++ l).set m v = List.replicate m z ++ v :: l := by
  rw [List.replicate_succ', List.append_assoc]
  simp
theorem oput_any (k n : Nat) (w : World) (hk : k ≤ 4) (_hn : n < 4611686018427387904) : Ret Tryz.prog 22 #[.int .i64 (k : Int), .int .i64 (n : Int)] w fun v w' => v = .string ⟨(beB k n).toArray⟩ ∧ Ext w w' := by
  have hE0 := Ext.refl w
  refine Ret.body Tryz.func22 rfl Tryz.ntmps22 rfl (Cd.seq (Cd.region (Seg.step rfl rfl (Yd.assign rfl) (Seg.nil (At.then_ (Cd.seq (Cd.region ?_)))))))
  refine Seg.step rfl rfl (Yd.move rfl) ?_
  (refine Seg.call rfl rfl (own_of rfl) rfl (held_any _ _ (by omega)) ?_; rintro _ w9 ⟨rfl, hE9⟩)
  replace hE0 := Ext.trans hE0 hE9
  refine Seg.step rfl rfl (Yd.assign rfl) (Seg.nil (At.then_ (Cd.seq (Cd.region (Seg.step rfl rfl (Yd.move rfl) (Seg.makeN rfl rfl rfl rfl rfl rfl rfl rfl rfl ⟨by omega, by decide⟩ (fun w1 b hE1 hB hb => ?_)))))))
  have hE0 := Ext.trans hE0 hE1
  have hB : Bx w1 b (List.replicate k (.int .u8 0)) := by rw [← rep_one]; exact hB
  refine Seg.step rfl rfl (Yd.assign rfl) (Seg.nil (At.then_ (Cd.seq (Cd.seq (Cd.region (Seg.step rfl rfl (Yd.move rfl) (Seg.step rfl rfl (Yd.subI rfl rfl (by omega)) ?_)))))))
  refine Seg.step rfl rfl (Yd.assign rfl) (Seg.nil (At.then_ (Cd.block ?_)))
  refine Cd.loop (σ := Nat) (fun s => [(0, .int .i64 (k : Int)), (1, .int .i64 ((n / 256 ^ s : Nat) : Int)), (5, .slice (some ⟨b, 0, none⟩) k k), (6, .int .i64 (((k - s : Nat) : Int) - 1))])
    (fun s w' => s ≤ k ∧ Bx w' b (List.replicate (k - s) (.int .u8 0) ++ bytesV (beB s n)) ∧ Ext w w') (fun s => k - s) 0 (by rw [Nat.pow_zero, Nat.div_one, Nat.sub_zero]; exact (.cons rfl (.cons rfl (.cons rfl (.cons rfl (.nil _)))))) ⟨Nat.zero_le _, by simpa [beB, bytesV] using hB, hE0⟩ ?_
  clear hE0 hB
  rintro s w2 ⟨hs, hB, hE0⟩
  by_cases hlt : s < k
  · obtain ⟨j, hj⟩ : ∃ j, k - s = j + 1 := ⟨k - s - 1, by omega⟩
    rw [hj] at hB ⊢
    rw [show (((j + 1 : Nat) : Int) - 1) = (j : Int) by omega]
    have hjk : j < k := by omega
    have hle : n / 256 ^ s ≤ n := Nat.div_le_self _ _
    have hsh : ((n / 256 ^ s : Nat) : Int) / 2 ^ 8 = ((n / 256 ^ (s + 1) : Nat) : Int) := by
      rw [Nat.pow_succ, ← Nat.div_div_eq_div_mul]; rfl
    have hset := set_mid (Value.int .u8 0) (.int .u8 (UInt8.ofNat (n / 256 ^ s)).toNat) j (bytesV (beB s n))
    have hj' : k - (s + 1) = j := by omega
    have hms : k - (s + 1) < j + 1 := by omega
    refine Cd.seq (Cd.seq (Cd.region (Seg.step rfl rfl (Yd.move rfl) (Seg.step rfl rfl (Yd.geq rfl rfl) (Seg.nil (At.then_ (Cd.condT rfl ?_)))))))
    refine Cd.skip (At.then_ (Cd.seq (Cd.block (Cd.seq (Cd.region (Seg.step rfl rfl (Yd.move rfl) (Seg.step rfl rfl (Yd.move rfl) ?_)))))))
    refine Seg.step rfl rfl (Yd.move rfl) ?_
    (refine Seg.step rfl rfl (Yd.convI rfl rfl rfl) ?_; rw [u8_wrapN])
    refine Seg.step rfl rfl (Yd.indexAddr1 rfl rfl rfl (NatOf.cast _) (by omega)) ?_
    refine Seg.store1 rfl rfl rfl rfl rfl hB (by simp [bytesV_length]; omega) (fun w3 hW3 hB3 => ?_)
    rw [hset] at hB3
    have hE0 := Ext.wr' hE0 hW3 (Nat.le_trans (Below.size (by assumption : Ext w w9)) hb)
    refine Seg.nil (At.then_ (Cd.region (Seg.step rfl rfl (Yd.move rfl) ?_)))
    (refine Seg.step rfl rfl (Yd.shr (by decide) rfl rfl rfl) ?_; rw [hsh])
    refine Seg.step rfl rfl (Yd.assign rfl) (Seg.nil (At.blk (At.then_ (Cd.region (Seg.step rfl rfl (Yd.move rfl) (Seg.step rfl rfl (Yd.subI rfl rfl (by omega)) (Seg.step rfl rfl (Yd.assign rfl) ?_)))))))
    refine Seg.nil ?_
    exact At.round (s + 1) (by rw [hj']; exact (.cons rfl (.cons rfl (.cons rfl (.cons rfl (.nil _)))))) ⟨hlt, by rw [hj']; exact hB3, hE0⟩ hms
  · obtain rfl : s = k := by omega
    rw [Nat.sub_self] at hB ⊢
    refine Cd.seq (Cd.seq (Cd.region (Seg.step rfl rfl (Yd.move rfl) (Seg.step rfl rfl (Yd.geq rfl rfl) (Seg.nil (At.then_ (Cd.condF rfl ?_)))))))
    refine Cd.exit (At.then_exit (At.then_exit (At.blk_same (At.then_ (Cd.seq (Cd.region (Seg.step rfl rfl (Yd.move rfl) ?_)))))))
    refine Seg.step rfl rfl (Yd.bts (l := beB s n) rfl rfl rfl rfl (by have h := hB.sl (m := s) (k := 1) (by simp [bytesV_length, beB_len]) s; simpa [beB_len] using h)) ?_
    refine Seg.step rfl rfl (Yd.assign rfl) (Seg.nil (At.then_ (Cd.ret ?_)))
    exact At.ret Tryz.results22 (.tmp rfl .nil) ⟨rfl, hE0⟩
theorem enew_any (l : List UInt8) (w : World) : Ret Tryz.prog 26 #[.string ⟨l.toArray⟩] w fun v w' => (∃ b, v = .pointer (some ⟨b, 0, none⟩) ∧ w.heap.size ≤ b ∧ Bx w' b [.string ⟨l.toArray⟩, .bool false]) ∧ Ext w w' := by
  have hE0 := Ext.refl w
  refine Ret.body Tryz.func26 rfl Tryz.ntmps26 rfl (Cd.seq (Cd.region (Seg.step rfl rfl (Yd.assign rfl) (Seg.nil (At.then_ (Cd.seq (Cd.region ?_)))))))
  refine Seg.step rfl rfl (Yd.move rfl) (Seg.step rfl rfl (Yd.buildT (cs := _ :: _ :: []) 2 rfl rfl rfl rfl rfl) (Seg.box rfl rfl rfl (fun w10 b10 hE10 hB10 hb10 => ?_)))
  have hlt10_0 := Nat.le_trans hE0.size hb10
  replace hE0 := Ext.trans hE0 hE10
  refine Seg.step rfl rfl (Yd.assign rfl) (Seg.nil (At.then_ (Cd.ret ?_)))
  exact At.ret Tryz.results26 (.tmp rfl .nil) ⟨⟨_, rfl, by assumption, by assumption⟩, hE0⟩
theorem etake_any (l : List UInt8) (b k : Nat) (w : World) (hB : Bx w b [.string ⟨l.toArray⟩, .bool false]) (hk : k ≤ l.length) : Ret Tryz.prog 51 #[.pointer (some ⟨b, 0, none⟩), .int .i64 (k : Int)] w fun v w' => v = .string ⟨(l.take k).toArray⟩ ∧ Wr b w w' ∧ Bx w' b [.string ⟨(l.drop k).toArray⟩, .bool false] := by
  have hE0 := Ext.refl w
  refine Ret.body Tryz.func51 rfl Tryz.ntmps51 rfl ?_
  have h1 : (if (k : Int) < 0 then (0 : Int) else k) = k := if_neg (by omega)
  have hW0 := Ext.wr hE0 b
  refine Cd.seq (Cd.region (Seg.step rfl rfl (Yd.assign rfl) (Seg.nil (At.then_ (Cd.seq (Cd.seq (Cd.region ?_)))))))
  refine Seg.step rfl rfl (Yd.move rfl) (Seg.step rfl rfl (Yd.eqlNilP rfl rfl rfl) (Seg.step rfl rfl (Yd.move rfl) (Seg.step rfl rfl (Yd.move rfl) (Seg.step rfl rfl (Yd.nilCheckP rfl) (Seg.step rfl rfl (Yd.fieldAddr rfl rfl) (Seg.step rfl rfl (Yd.load1 rfl rfl (hB.row _ _ rfl)) (Seg.step rfl rfl (Yd.pickF rfl rfl) ?_)))))))
  refine Seg.nil (At.then_ (Cd.condF rfl (Cd.skip (At.then_ (Cd.seq (Cd.region (Seg.step rfl rfl (Yd.move rfl) ?_)))))))
  (refine Seg.step rfl rfl (Yd.max2I rfl rfl) ?_; rw [h1])
  refine Seg.step rfl rfl (Yd.assign rfl) (Seg.nil (At.then_ (Cd.seq (Cd.seq (Cd.region (Seg.step rfl rfl (Yd.move rfl) (Seg.step rfl rfl (Yd.move rfl) ?_)))))))
  refine Seg.step rfl rfl (Yd.nilCheckP rfl) (Seg.step rfl rfl (Yd.fieldAddr rfl rfl) (Seg.step rfl rfl (Yd.load1 rfl rfl (hB.row _ _ rfl)) (Seg.step rfl rfl (Yd.lenStr rfl rfl) (Seg.step rfl rfl (Yd.gtr rfl rfl) (Seg.nil (At.then_ ?_))))))
  refine Cd.condk rfl (fun h42 => ?_) (fun h42 => ?_)
  · exfalso; omega
  · refine Cd.skip (At.then_ (Cd.seq (Cd.region (Seg.step rfl rfl (Yd.move rfl) (Seg.step rfl rfl (Yd.nilCheckP rfl) (Seg.step rfl rfl (Yd.fieldAddr rfl rfl) (Seg.step rfl rfl (Yd.load1 rfl rfl (hB.row _ _ rfl)) ?_)))))))
    refine Seg.step rfl rfl (Yd.move rfl) (Seg.step rfl rfl (Yd.slStrH rfl rfl rfl (NatOf.cast _) (by omega)) (Seg.step rfl rfl (Yd.assign rfl) (Seg.nil (At.then_ (Cd.seq (Cd.region (Seg.step rfl rfl (Yd.move rfl) ?_)))))))
    refine Seg.step rfl rfl (Yd.move rfl) (Seg.step rfl rfl (Yd.nilCheckP rfl) (Seg.step rfl rfl (Yd.fieldAddr rfl rfl) (Seg.step rfl rfl (Yd.load1 rfl rfl (hB.row _ _ rfl)) (Seg.step rfl rfl (Yd.move rfl) (Seg.step rfl rfl (Yd.slStrL rfl rfl rfl (NatOf.cast _) (by omega)) (Seg.step rfl rfl (Yd.nilCheckP rfl) (Seg.step rfl rfl (Yd.fieldAddr rfl rfl) ?_)))))))
    refine Seg.store1 rfl rfl rfl rfl rfl hB (by first | omega | (simp; done) | exact Nat.le_of_ble_eq_true rfl) (fun w68 hW68 hB68 => ?_)
    clear hB
    replace hW0 := Wr.trans hW0 hW68
    refine Seg.nil (At.then_ (Cd.seq (Cd.region (Seg.step rfl rfl (Yd.move rfl) (Seg.step rfl rfl (Yd.assign rfl) (Seg.nil (At.then_ ?_)))))))
    refine Cd.ret ?_
    exact At.ret Tryz.results51 (.tmp rfl .nil) ⟨rfl, hW0, by assumption⟩
theorem enum_any (l : List UInt8) (b k : Nat) (w : World) (hB : Bx w b [.string ⟨l.toArray⟩, .bool false]) (hk : k ≤ l.length) (h4 : k ≤ 4) : Ret Tryz.prog 27 #[.pointer (some ⟨b, 0, none⟩), .int .i64 (k : Int)] w fun v w' => v = .int .i64 (deB (l.take k) : Nat) ∧ Wr b w w' ∧ Bx w' b [.string ⟨(l.drop k).toArray⟩, .bool false] := by
  have hE0 := Ext.refl w
  refine Ret.body Tryz.func27 rfl Tryz.ntmps27 rfl (Cd.seq (Cd.region (Seg.step rfl rfl (Yd.assign rfl) (Seg.nil (At.then_ (Cd.seq (Cd.region ?_)))))))
  refine Seg.step rfl rfl (Yd.assign rfl) (Seg.nil (At.then_ (Cd.seq (Cd.seq (Cd.region (Seg.step rfl rfl (Yd.move rfl) (Seg.step rfl rfl (Yd.move rfl) ?_)))))))
  (refine Seg.call rfl rfl (own_of rfl) rfl (held_any _ _ (by omega)) ?_; rintro _ w20 ⟨rfl, hE20⟩)
  replace hB := hB.ext hE20
  replace hE0 := Ext.trans hE0 hE20
  refine Seg.call rfl rfl (own_of rfl) rfl (etake_any l b k _ hB hk) ?_
  rintro _ w2 ⟨rfl, hW2, hB2⟩
  have hW0 := Wr.trans (Ext.wr hE0 b) hW2
  have hE2 := Ext.refl w2
  clear hE0 hW2
  refine Seg.stb rfl rfl rfl rfl rfl rfl (fun w3 b' zs c hE3 hF hb' => ?_)
  have hl : (l.take k).length = k := by rw [List.length_take]; omega
  refine Seg.step rfl rfl (Yd.lenS rfl rfl) (Seg.step rfl rfl (Yd.move rfl) (Seg.nil (At.then_ (Cd.block ?_))))
  refine Cd.loop (σ := Nat) (fun i => [(5, .int .i64 (deB ((l.take k).take i) : Nat)), (12, .slice (some ⟨b', 0, none⟩) (l.take k).length c), (13, .int .i64 ((l.take k).length : Int)), (14, .int .i64 (i : Int))])
    (fun i w' => i ≤ k ∧ Ext w3 w') (fun i => k - i) 0 (.cons rfl (.cons rfl (.cons rfl (.cons rfl (.nil _))))) ⟨Nat.zero_le _, Ext.refl _⟩ ?_
  have kB2 : Keep (Bx w2 b [.string ⟨(l.drop k).toArray⟩, .bool false]) := hB2
  have kE3 : Keep (Ext w2 w3) := hE3
  have kF : Keep (Bf w3 b' (bytesV (l.take k) ++ zs)) := hF
  clear hE2 hE3 hF hB2 hB
  rintro i w4 ⟨hi, hE0⟩
  by_cases hlt : i < k
  · have hrow : Row w4 ⟨b', 0, none⟩ (bytesV (l.take k) ++ zs) := kF.row.ext hE0
    have hc : IntKind.i64.wrap (((l.take k).getD i 0).toNat : Int) = (((l.take k).getD i 0).toNat : Int) := IntWalk.i64_in _ ⟨by omega, by have := byte_lt ((l.take k).getD i 0); omega⟩
    have hd := deB_lt ((l.take k).take i)
    have hd4 : 256 ^ ((l.take k).take i).length ≤ 256 ^ 4 := Nat.pow_le_pow_right (by decide) (by rw [List.length_take]; omega)
    have hw : IntKind.i64.wrap ((deB ((l.take k).take i) : Int) * 2 ^ 8) = (deB ((l.take k).take i) : Int) * 2 ^ 8 := IntWalk.i64_in _ ⟨by omega, by omega⟩
    have hor : bitsOr .i64 ((deB ((l.take k).take i) : Int) * 2 ^ 8) (((l.take k).getD i 0).toNat : Int) = (deB ((l.take k).take (i + 1)) : Int) := by
      have hb := byte_lt ((l.take k).getD i 0)
      have e : ((deB ((l.take k).take i) : Int) * 2 ^ 8) = ((deB ((l.take k).take i) * 2 ^ 8 : Nat) : Int) := by omega
      rw [e, bitsOr_nat (by show _ < 2 ^ 64; omega) (by show _ < 2 ^ 64; omega), or_low (by omega), take_get (by omega), deB_snoc]
      exact IntWalk.i64_in _ ⟨by omega, by omega⟩
    have hcell : (bytesV (l.take k) ++ zs)[i]? = some (.int .u8 ((l.take k).getD i 0).toNat) := by
      rw [List.getElem?_append_left (by rw [bytesV_length]; omega)]
      exact bytesV_at (getD_at (by omega))
    refine Cd.seq (Cd.region (Seg.step rfl rfl (Yd.lss rfl rfl) (Seg.nil (At.then_ (Cd.seq ?_)))))
    refine Cd.condk rfl (fun h27 => ?_) (fun h27 => ?_)
    · refine Cd.skip (At.then_ (Cd.seq (Cd.block (Cd.seq (Cd.region (Seg.step rfl rfl (Yd.indexAddr1 rfl rfl rfl (NatOf.cast _) (by omega)) (Seg.step rfl rfl (Yd.load1 rfl rfl (hrow _ _ hcell)) ?_)))))))
      refine Seg.step rfl rfl (Yd.assign rfl) (Seg.nil (At.then_ (Cd.region (Seg.step rfl rfl (Yd.move rfl) ?_))))
      (refine Seg.step rfl rfl (Yd.shl (by decide) rfl rfl rfl hw) ?_)
      refine Seg.step rfl rfl (Yd.move rfl) ?_
      (refine Seg.step rfl rfl (Yd.convN rfl rfl rfl hc) ?_)
      refine Seg.step rfl rfl (Yd.or rfl rfl) (Seg.step rfl rfl (Yd.assign rfl) (Seg.nil (At.blk (At.then_ (Cd.region (Seg.step rfl rfl (Yd.addI rfl rfl (by omega)) (Seg.step rfl rfl (Yd.move rfl) ?_)))))))
      refine Seg.nil ?_
      exact At.round (i + 1) (by rw [← hor]; exact (.cons rfl (.cons rfl (.cons rfl (.cons rfl (.nil _)))))) ⟨hlt, hE0⟩ (Nat.sub_lt_sub_left hlt (Nat.lt_succ_self i))
    · exfalso; omega
  · obtain rfl : i = k := by omega
    have hti : (l.take i).take i = l.take i := by rw [List.take_take, Nat.min_self]
    refine Cd.seq (Cd.region (Seg.step rfl rfl (Yd.lss rfl rfl) (Seg.nil (At.then_ (Cd.seq ?_)))))
    refine Cd.condk rfl (fun h27 => ?_) (fun h27 => ?_)
    · exfalso; omega
    · refine Cd.exit (At.then_exit (At.then_exit (At.blk_same (At.then_ (Cd.seq (Cd.region (Seg.step rfl rfl (Yd.move rfl) ?_)))))))
      refine Seg.step rfl rfl (Yd.assign rfl) (Seg.nil (At.then_ (Cd.ret ?_)))
      exact At.ret Tryz.results27 (.tmp rfl .nil) ⟨by rw [hti]; rfl, Wr.trans hW0 (Ext.wr (Ext.trans kE3 hE0) b), Bx.ext kB2 (Ext.trans kE3 hE0)⟩
end Go.Proofs.YtahpiaaffeiadaaGreat
