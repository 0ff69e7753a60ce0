/- What a message begins with: the walks of package head. -/
import Derived.Test.YtahpiaaffeiadaaGreatEoc
namespace Go.Proofs.YtahpiaaffeiadaaGreat
open Go Go.RowKit
/-- A head. -/
structure Hd where
  id : Int
  qr : Bool
  op : Int
  aa : Bool
  tc : Bool
  rd : Bool
  ra : Bool
  ad : Bool
  cd : Bool
  rc : Int
def Hd.cells (h : Hd) : List Value := [.int .i64 h.id, .bool h.qr, .int .i64 h.op, .bool h.aa, .bool h.tc, .bool h.rd, .bool h.ra, .bool h.ad, .bool h.cd, .int .i64 h.rc]
def bitI (b : Bool) (n : Int) : Int := if b then n else 0
def Hd.num (h : Hd) : Int := bitI h.qr 32768 + h.op * 2048 + bitI h.aa 1024 + bitI h.tc 512 + bitI h.rd 256 + bitI h.ra 128 + bitI h.ad 32 + bitI h.cd 16 + h.rc
def HdOk (h : Hd) : Prop := (0 ≤ h.id ∧ h.id ≤ 65535) ∧ (0 ≤ h.op ∧ h.op ≤ 15) ∧ 0 ≤ h.rc ∧ h.rc ≤ 15
instance (h : Hd) : Decidable (HdOk h) := by unfold HdOk; infer_instance
theorem bitI_bd (b : Bool) {n : Int} (h : 0 ≤ n) : 0 ≤ bitI b n ∧ bitI b n ≤ n := by unfold bitI; split <;> omega
theorem hwithin_any (n most : Int) (w : World) : Ret Tryz.prog 46 #[.int .i64 n, .int .i64 most] w fun v w' => v = .bool (decide (0 ≤ n ∧ n ≤ most)) ∧ Ext w w' := by
  have hE0 := Ext.refl w
  refine Ret.body Tryz.func46 rfl Tryz.ntmps46 rfl ?_
  have hT : 0 ≤ n → Value.bool (decide (n ≤ most)) = .bool (decide (0 ≤ n ∧ n ≤ most)) := fun h => by congr 1; rw [decide_eq_decide]; exact ⟨fun h' => ⟨h, h'⟩, fun h' => h'.2⟩
  have hF : ¬ 0 ≤ n → Value.bool false = .bool (decide (0 ≤ n ∧ n ≤ most)) := fun h => by rw [decide_eq_false]; exact fun h' => h h'.1
  by_cases hc : 0 ≤ n
  · refine Cd.seq (Cd.region (Seg.step rfl rfl (Yd.assign rfl) (Seg.nil (At.then_ (Cd.seq (Cd.region (Seg.step rfl rfl (Yd.move rfl) ?_)))))))
    refine Seg.step rfl rfl (Yd.leq rfl rfl) (Seg.step rfl rfl (Yd.move rfl) ?_)
    refine Seg.gsplitp rfl rfl (fun h11 => ?_) (fun h11 => ?_)
    · refine Seg.step rfl rfl (Yd.move rfl) (Seg.step rfl rfl (Yd.move rfl) (Seg.step rfl rfl (Yd.leq rfl rfl) (Seg.step rfl rfl (Yd.pickT rfl rfl) (Seg.step rfl rfl (Yd.assign rfl) (Seg.nil (At.then_ (Cd.ret ?_)))))))
      exact At.ret Tryz.results46 (.tmp rfl .nil) ⟨hT hc, hE0⟩
    · exfalso; omega
  · refine Cd.seq (Cd.region (Seg.step rfl rfl (Yd.assign rfl) (Seg.nil (At.then_ (Cd.seq (Cd.region (Seg.step rfl rfl (Yd.move rfl) ?_)))))))
    refine Seg.step rfl rfl (Yd.leq rfl rfl) (Seg.step rfl rfl (Yd.move rfl) ?_)
    refine Seg.gsplitp rfl rfl (fun h11 => ?_) (fun h11 => ?_)
    · exfalso; omega
    · refine Seg.skip rfl rfl (Seg.skip rfl rfl (Seg.skip rfl rfl (Seg.step rfl rfl (Yd.pickF rfl rfl) (Seg.step rfl rfl (Yd.assign rfl) (Seg.nil (At.then_ (Cd.ret ?_)))))))
      exact At.ret Tryz.results46 (.tmp rfl .nil) ⟨hF hc, hE0⟩
theorem hbit_any (b : Bool) (n : Int) (w : World) : Ret Tryz.prog 45 #[.bool b, .int .i64 n] w fun v w' => v = .int .i64 (bitI b n) ∧ Ext w w' := by
  have hE0 := Ext.refl w
  refine Ret.body Tryz.func45 rfl Tryz.ntmps45 rfl ?_
  cases b
  · refine Cd.seq (Cd.region (Seg.step rfl rfl (Yd.assign rfl) (Seg.nil (At.then_ (Cd.seq (Cd.seq (Cd.region ?_)))))))
    refine Seg.step rfl rfl (Yd.move rfl) (Seg.nil (At.then_ (Cd.condF rfl (Cd.skip (At.then_ (Cd.seq (Cd.region ?_)))))))
    refine Seg.step rfl rfl (Yd.assign rfl) (Seg.nil (At.then_ (Cd.ret ?_)))
    exact At.ret Tryz.results45 (.tmp rfl .nil) ⟨rfl, hE0⟩
  · refine Cd.seq (Cd.region (Seg.step rfl rfl (Yd.assign rfl) (Seg.nil (At.then_ (Cd.seq (Cd.seq (Cd.region ?_)))))))
    refine Seg.step rfl rfl (Yd.move rfl) (Seg.nil (At.then_ (Cd.condT rfl (Cd.seq (Cd.region (Seg.step rfl rfl (Yd.move rfl) (Seg.step rfl rfl (Yd.assign rfl) ?_)))))))
    refine Seg.nil (At.then_ (Cd.ret (At.then_ret ?_)))
    exact At.ret Tryz.results45 (.tmp rfl .nil) ⟨rfl, hE0⟩
theorem hcheck_any (h : Hd) (w : World) : Ret Tryz.prog 41 #[.agg h.cells.toArray] w fun v w' => v = .int .i64 (if HdOk h then 0 else 4) ∧ Ext w w' := by
  have hE0 := Ext.refl w
  refine Ret.body Tryz.func41 rfl Tryz.ntmps41 rfl ?_
  have hok : HdOk h ↔ (0 ≤ h.id ∧ h.id ≤ 65535) ∧ (0 ≤ h.op ∧ h.op ≤ 15) ∧ 0 ≤ h.rc ∧ h.rc ≤ 15 := Iff.rfl
  refine Cd.seq (Cd.region (Seg.box rfl rfl rfl (fun w3 b3 hE3 hB3 hb3 => ?_)))
  have hlt3_0 := Nat.le_trans hE0.size hb3
  replace hE0 := Ext.trans hE0 hE3
  refine Seg.step rfl rfl (Yd.assign rfl) (Seg.nil (At.then_ (Cd.seq (Cd.seq (Cd.region (Seg.step rfl rfl (Yd.fieldAddr rfl rfl) (Seg.step rfl rfl (Yd.load1 rfl rfl (hB3.row _ _ rfl)) ?_)))))))
  (refine Seg.call rfl rfl (own_of rfl) rfl (hwithin_any _ _ _) ?_; rintro _ w12 ⟨rfl, hE12⟩)
  replace hE3 := Ext.trans hE3 hE12
  replace hB3 := hB3.ext hE12
  replace hE0 := Ext.trans hE0 hE12
  refine Seg.step rfl rfl (Yd.notp rfl) (Seg.step rfl rfl (Yd.move rfl) ?_)
  refine Seg.gsplitp rfl rfl (fun h15 => ?_) (fun h15 => ?_)
  · refine Seg.skip rfl rfl (Seg.skip rfl rfl (Seg.skip rfl rfl (Seg.skip rfl rfl (Seg.step rfl rfl (Yd.pickT rfl rfl) (Seg.step rfl rfl (Yd.move rfl) (Seg.skip rfl rfl (Seg.skip rfl rfl ?_)))))))
    refine Seg.skip rfl rfl (Seg.skip rfl rfl (Seg.step rfl rfl (Yd.pickT rfl rfl) (Seg.nil (At.then_ (Cd.condT rfl (Cd.seq (Cd.region ?_)))))))
    refine Seg.step rfl rfl (Yd.assign rfl) (Seg.nil (At.then_ (Cd.ret (At.then_ret ?_))))
    first | exact At.ret Tryz.results41 (.tmp rfl .nil) ⟨(congrArg (Value.int .i64) (if_neg (by rw [hok]; omega))).symm, hE0⟩ | exact At.ret Tryz.results41 (.tmp rfl .nil) ⟨(congrArg (Value.int .i64) (if_pos (by rw [hok]; omega))).symm, hE0⟩
  · refine Seg.step rfl rfl (Yd.fieldAddr rfl rfl) (Seg.step rfl rfl (Yd.load1 rfl rfl (hB3.row _ _ rfl)) ?_)
    (refine Seg.call rfl rfl (own_of rfl) rfl (hwithin_any _ _ _) ?_; rintro _ w42 ⟨rfl, hE42⟩)
    replace hE12 := Ext.trans hE12 hE42
    replace hE3 := Ext.trans hE3 hE42
    replace hB3 := hB3.ext hE42
    replace hE0 := Ext.trans hE0 hE42
    refine Seg.step rfl rfl (Yd.notp rfl) (Seg.step rfl rfl (Yd.pickF rfl rfl) (Seg.step rfl rfl (Yd.move rfl) ?_))
    refine Seg.gsplitp rfl rfl (fun h46 => ?_) (fun h46 => ?_)
    · refine Seg.skip rfl rfl (Seg.skip rfl rfl (Seg.skip rfl rfl (Seg.skip rfl rfl (Seg.step rfl rfl (Yd.pickT rfl rfl) (Seg.nil (At.then_ (Cd.condT rfl ?_)))))))
      refine Cd.seq (Cd.region (Seg.step rfl rfl (Yd.assign rfl) (Seg.nil (At.then_ (Cd.ret (At.then_ret ?_))))))
      first | exact At.ret Tryz.results41 (.tmp rfl .nil) ⟨(congrArg (Value.int .i64) (if_neg (by rw [hok]; omega))).symm, hE0⟩ | exact At.ret Tryz.results41 (.tmp rfl .nil) ⟨(congrArg (Value.int .i64) (if_pos (by rw [hok]; omega))).symm, hE0⟩
    · refine Seg.step rfl rfl (Yd.fieldAddr rfl rfl) (Seg.step rfl rfl (Yd.load1 rfl rfl (hB3.row _ _ rfl)) ?_)
      (refine Seg.call rfl rfl (own_of rfl) rfl (hwithin_any _ _ _) ?_; rintro _ w67 ⟨rfl, hE67⟩)
      replace hE42 := Ext.trans hE42 hE67
      replace hE12 := Ext.trans hE12 hE67
      replace hE3 := Ext.trans hE3 hE67
      replace hB3 := hB3.ext hE67
      replace hE0 := Ext.trans hE0 hE67
      refine Seg.step rfl rfl (Yd.notp rfl) (Seg.step rfl rfl (Yd.pickF rfl rfl) (Seg.nil (At.then_ ?_)))
      refine Cd.condk rfl (fun h72 => ?_) (fun h72 => ?_)
      · refine Cd.seq (Cd.region (Seg.step rfl rfl (Yd.assign rfl) (Seg.nil (At.then_ (Cd.ret (At.then_ret ?_))))))
        first | exact At.ret Tryz.results41 (.tmp rfl .nil) ⟨(congrArg (Value.int .i64) (if_neg (by rw [hok]; omega))).symm, hE0⟩ | exact At.ret Tryz.results41 (.tmp rfl .nil) ⟨(congrArg (Value.int .i64) (if_pos (by rw [hok]; omega))).symm, hE0⟩
      · refine Cd.skip (At.then_ (Cd.seq (Cd.region (Seg.step rfl rfl (Yd.assign rfl) (Seg.nil (At.then_ (Cd.ret ?_)))))))
        first | exact At.ret Tryz.results41 (.tmp rfl .nil) ⟨(congrArg (Value.int .i64) (if_neg (by rw [hok]; omega))).symm, hE0⟩ | exact At.ret Tryz.results41 (.tmp rfl .nil) ⟨(congrArg (Value.int .i64) (if_pos (by rw [hok]; omega))).symm, hE0⟩
/-- A head's octets, with its counts. -/
def hdB (h : Hd) (c : List Nat) : List UInt8 := beB 2 h.id.toNat ++ beB 2 h.num.toNat ++ c.flatMap (beB 2)
theorem be_flat (k : Nat) (c : List Nat) : (c.flatMap (beB k)).length = c.length * k := by
  induction c with
  | nil => simp
  | cons n c ih => rw [List.flatMap_cons, List.length_append, beB_len, ih, List.length_cons, Nat.succ_mul, Nat.add_comm]
theorem num_bd {h : Hd} (hok : HdOk h) : 0 ≤ h.num ∧ h.num ≤ 65535 := by
  obtain ⟨⟨_, _⟩, ⟨_, _⟩, _, _⟩ := hok
  have h1 := bitI_bd h.qr (n := 32768) (by decide)
  have h2 := bitI_bd h.aa (n := 1024) (by decide)
  have h3 := bitI_bd h.tc (n := 512) (by decide)
  have h4 := bitI_bd h.rd (n := 256) (by decide)
  have h5 := bitI_bd h.ra (n := 128) (by decide)
  have h6 := bitI_bd h.ad (n := 32) (by decide)
  have h7 := bitI_bd h.cd (n := 16) (by decide)
  unfold Hd.num
  omega
theorem oputI (k : Nat) (n : Int) (w : World) (hk : k ≤ 4) (h0 : 0 ≤ n) (hn : n < 4611686018427387904) : Ret Tryz.prog 22 #[.int .i64 (k : Int), .int .i64 n] w fun v w' => v = .string ⟨(beB k n.toNat).toArray⟩ ∧ Ext w w' := by
  have := oput_any k n.toNat w hk (by omega)
  rwa [Int.toNat_of_nonneg h0] at this
theorem hput_any (h : Hd) (c : List Nat) (w : World) (hok : HdOk h) (hc : c.length = 4) (hcl : ∀ n ∈ c, n ≤ 65535) : Ret Tryz.prog 16 #[.agg h.cells.toArray, .agg (c.map fun n : Nat => Value.int .i64 (n : Int)).toArray] w fun v w' => v = .tuple #[.string ⟨(hdB h c).toArray⟩, .int .i64 0] ∧ Ext w w' := by
  have hE0 := Ext.refl w
  have hnb := num_bd hok
  have hb1 := beB_len 2 h.id.toNat
  have hb2 := beB_len 2 h.num.toNat
  obtain ⟨⟨hi0, hi1⟩, ⟨ho0, ho1⟩, hr0, hr1⟩ := id hok
  have h1 := bitI_bd h.qr (n := 32768) (by decide)
  have h2 := bitI_bd h.aa (n := 1024) (by decide)
  have h3 := bitI_bd h.tc (n := 512) (by decide)
  have h4 := bitI_bd h.rd (n := 256) (by decide)
  have h5 := bitI_bd h.ra (n := 128) (by decide)
  have h6 := bitI_bd h.ad (n := 32) (by decide)
  have h7 := bitI_bd h.cd (n := 16) (by decide)
  obtain ⟨c0, c1, c2, c3, rfl⟩ : ∃ c0 c1 c2 c3, c = [c0, c1, c2, c3] := by
    match c, hc with
    | [c0, c1, c2, c3], _ => exact ⟨c0, c1, c2, c3, rfl⟩
  refine Ret.body Tryz.func16 rfl Tryz.ntmps16 rfl (Cd.seq (Cd.region (Seg.box rfl rfl rfl (fun w10 b10 hE10 hB10 hb10 => ?_))))
  have hlt10_0 := Nat.le_trans hE0.size hb10
  replace hE0 := Ext.trans hE0 hE10
  refine Seg.box rfl rfl rfl (fun w11 b11 hE11 hB11 hb11 => ?_)
  have hlt11_0 := Nat.le_trans hE10.size hb11
  have hlt11_1 := Nat.lt_of_lt_of_le hB10.lt hb11
  have hlt11_2 := Nat.le_trans hE0.size hb11
  replace hE10 := Ext.trans hE10 hE11
  replace hB10 := hB10.ext hE11
  replace hE0 := Ext.trans hE0 hE11
  refine Seg.step rfl rfl (Yd.assign rfl) (Seg.step rfl rfl (Yd.assign rfl) (Seg.nil (At.then_ (Cd.seq (Cd.seq (Cd.region (Seg.step rfl rfl (Yd.loadN rfl rfl rfl hB10.row) ?_)))))))
  (refine Seg.call rfl rfl (own_of rfl) rfl (hcheck_any _ _) ?_; rw [if_pos hok]; rintro _ w20 ⟨rfl, hE20⟩)
  replace hE11 := Ext.trans hE11 hE20
  replace hB11 := hB11.ext hE20
  replace hE10 := Ext.trans hE10 hE20
  replace hB10 := hB10.ext hE20
  replace hE0 := Ext.trans hE0 hE20
  refine Seg.step rfl rfl (Yd.assign rfl) (Seg.nil (At.then_ (Cd.seq (Cd.region (Seg.step rfl rfl (Yd.move rfl) (Seg.step rfl rfl (Yd.neq rfl rfl) (Seg.nil ?_)))))))
  refine At.then_ (Cd.condF rfl (Cd.skip (At.then_ (Cd.seq (Cd.quiet (by kernel_rfl) (by kernel_rfl) (SegQ.step rfl rfl (fun w' hw' => Yd.fieldAddr rfl rfl) (SegQ.step rfl rfl (fun w' hw' => Yd.load1 rfl rfl ((hB10.ext hw').row _ _ rfl)) ?_)))))))
  refine SegQ.call rfl rfl (own_of rfl) rfl (fun w' hw' => (hbit_any _ _ w').mono fun v w'' h => ⟨h.1, Ext.trans hw' h.2⟩) (SegQ.step rfl rfl (fun w' hw' => Yd.fieldAddr rfl rfl) (SegQ.step rfl rfl (fun w' hw' => Yd.load1 rfl rfl ((hB10.ext hw').row _ _ rfl)) (SegQ.step rfl rfl (fun w' hw' => Yd.mulI rfl rfl (by omega)) (SegQ.step rfl rfl (fun w' hw' => Yd.addI rfl rfl (by omega)) (SegQ.step rfl rfl (fun w' hw' => Yd.fieldAddr rfl rfl) (SegQ.step rfl rfl (fun w' hw' => Yd.load1 rfl rfl ((hB10.ext hw').row _ _ rfl)) (SegQ.call rfl rfl (own_of rfl) rfl (fun w' hw' => (hbit_any _ _ w').mono fun v w'' h => ⟨h.1, Ext.trans hw' h.2⟩) ?_)))))))
  refine SegQ.step rfl rfl (fun w' hw' => Yd.addI rfl rfl (by omega)) (SegQ.step rfl rfl (fun w' hw' => Yd.fieldAddr rfl rfl) (SegQ.step rfl rfl (fun w' hw' => Yd.load1 rfl rfl ((hB10.ext hw').row _ _ rfl)) (SegQ.call rfl rfl (own_of rfl) rfl (fun w' hw' => (hbit_any _ _ w').mono fun v w'' h => ⟨h.1, Ext.trans hw' h.2⟩) (SegQ.step rfl rfl (fun w' hw' => Yd.addI rfl rfl (by omega)) (SegQ.step rfl rfl (fun w' hw' => Yd.fieldAddr rfl rfl) (SegQ.step rfl rfl (fun w' hw' => Yd.load1 rfl rfl ((hB10.ext hw').row _ _ rfl)) (SegQ.call rfl rfl (own_of rfl) rfl (fun w' hw' => (hbit_any _ _ w').mono fun v w'' h => ⟨h.1, Ext.trans hw' h.2⟩) ?_)))))))
  refine SegQ.step rfl rfl (fun w' hw' => Yd.addI rfl rfl (by omega)) (SegQ.step rfl rfl (fun w' hw' => Yd.fieldAddr rfl rfl) (SegQ.step rfl rfl (fun w' hw' => Yd.load1 rfl rfl ((hB10.ext hw').row _ _ rfl)) (SegQ.call rfl rfl (own_of rfl) rfl (fun w' hw' => (hbit_any _ _ w').mono fun v w'' h => ⟨h.1, Ext.trans hw' h.2⟩) (SegQ.step rfl rfl (fun w' hw' => Yd.addI rfl rfl (by omega)) (SegQ.step rfl rfl (fun w' hw' => Yd.fieldAddr rfl rfl) (SegQ.step rfl rfl (fun w' hw' => Yd.load1 rfl rfl ((hB10.ext hw').row _ _ rfl)) (SegQ.call rfl rfl (own_of rfl) rfl (fun w' hw' => (hbit_any _ _ w').mono fun v w'' h => ⟨h.1, Ext.trans hw' h.2⟩) ?_)))))))
  refine SegQ.step rfl rfl (fun w' hw' => Yd.addI rfl rfl (by omega)) (SegQ.step rfl rfl (fun w' hw' => Yd.fieldAddr rfl rfl) (SegQ.step rfl rfl (fun w' hw' => Yd.load1 rfl rfl ((hB10.ext hw').row _ _ rfl)) (SegQ.call rfl rfl (own_of rfl) rfl (fun w' hw' => (hbit_any _ _ w').mono fun v w'' h => ⟨h.1, Ext.trans hw' h.2⟩) (SegQ.step rfl rfl (fun w' hw' => Yd.addI rfl rfl (by omega)) (SegQ.step rfl rfl (fun w' hw' => Yd.fieldAddr rfl rfl) (SegQ.step rfl rfl (fun w' hw' => Yd.load1 rfl rfl ((hB10.ext hw').row _ _ rfl)) (SegQ.step rfl rfl (fun w' hw' => Yd.addI rfl rfl (by omega)) ?_)))))))
  refine SegQ.step rfl rfl (fun w' hw' => Yd.assign rfl) (SegQ.nil fun w70 hE70 => ?_)
  replace hE20 := Ext.trans hE20 hE70
  replace hE11 := Ext.trans hE11 hE70
  replace hB11 := hB11.ext hE70
  replace hE10 := Ext.trans hE10 hE70
  replace hB10 := hB10.ext hE70
  replace hE0 := Ext.trans hE0 hE70
  refine At.then_ (Cd.seq (Cd.region (Seg.step rfl rfl (Yd.fieldAddr rfl rfl) (Seg.step rfl rfl (Yd.load1 rfl rfl (hB10.row _ _ rfl)) ?_))))
  (refine Seg.call rfl rfl (own_of rfl) rfl (oputI 2 h.id _ (by decide) hi0 (by omega)) ?_; rintro _ w76 ⟨rfl, hE76⟩)
  replace hE70 := Ext.trans hE70 hE76
  replace hE20 := Ext.trans hE20 hE76
  replace hE11 := Ext.trans hE11 hE76
  replace hB11 := hB11.ext hE76
  replace hE10 := Ext.trans hE10 hE76
  replace hB10 := hB10.ext hE76
  replace hE0 := Ext.trans hE0 hE76
  refine Seg.step rfl rfl (Yd.move rfl) ?_
  (refine Seg.call rfl rfl (own_of rfl) rfl (oputI 2 h.num _ (by decide) hnb.1 (by omega)) ?_; rintro _ w78 ⟨rfl, hE78⟩)
  replace hE76 := Ext.trans hE76 hE78
  replace hE70 := Ext.trans hE70 hE78
  replace hE20 := Ext.trans hE20 hE78
  replace hE11 := Ext.trans hE11 hE78
  replace hB11 := hB11.ext hE78
  replace hE10 := Ext.trans hE10 hE78
  replace hB10 := hB10.ext hE78
  replace hE0 := Ext.trans hE0 hE78
  refine Seg.step rfl rfl (Yd.addS rfl rfl (by omega)) (Seg.step rfl rfl (Yd.assign rfl) (Seg.nil (At.then_ (Cd.seq (Cd.seq (Cd.region (Seg.step rfl rfl (Yd.loadN rfl rfl rfl hB11.row) ?_)))))))
  refine Seg.step rfl rfl (Yd.move rfl) (Seg.nil (At.then_ (Cd.block ?_)))
  refine Cd.loop (σ := Nat) (fun i => [(8, .string ⟨(beB 2 h.id.toNat ++ beB 2 h.num.toNat ++ (([c0, c1, c2, c3] : List Nat).take i).flatMap (beB 2)).toArray⟩), (56, .agg (([c0, c1, c2, c3] : List Nat).map fun (n : Nat) => Value.int .i64 (n : Int)).toArray), (57, .int .i64 (i : Int))])
    (fun i w' => i ≤ 4 ∧ Ext w w') (fun i => 4 - i) 0 (by simp only [List.take_zero, List.flatMap_nil, List.append_nil]; exact (.cons rfl (.cons rfl (.cons rfl (.nil _))))) ⟨Nat.zero_le _, by assumption⟩ ?_
  clear hE0
  rintro i w1 ⟨hi, hE0⟩
  by_cases hlt : i < 4
  · obtain ⟨m, hm⟩ : ∃ m, ([c0, c1, c2, c3] : List Nat)[i]? = some m := ⟨_, List.getElem?_eq_getElem hlt⟩
    have hv : (([c0, c1, c2, c3] : List Nat).map fun (n : Nat) => Value.int .i64 (n : Int))[i]? = some (.int .i64 (m : Int)) := by rw [List.getElem?_map, hm]; rfl
    have hml := hcl m (List.mem_of_getElem? hm)
    have htk : (([c0, c1, c2, c3] : List Nat).take (i + 1)).flatMap (beB 2) = (([c0, c1, c2, c3] : List Nat).take i).flatMap (beB 2) ++ beB 2 m := by
      rw [List.take_add_one, hm, List.flatMap_append]; simp
    have hfl : ((([c0, c1, c2, c3] : List Nat).take i).flatMap (beB 2)).length ≤ 8 := by
      rw [be_flat, List.length_take]
      omega
    have hal : (beB 2 h.id.toNat ++ beB 2 h.num.toNat ++ (([c0, c1, c2, c3] : List Nat).take i).flatMap (beB 2)).length ≤ 12 := by rw [List.length_append, List.length_append, hb1, hb2]; omega
    have hb3 := beB_len 2 m
    have hin : (decide ((0 : Int) ≤ (m : Int) ∧ (m : Int) ≤ 65535)) = true := decide_eq_true (by omega)
    refine Cd.seq (Cd.region (Seg.step rfl rfl (Yd.lss rfl rfl) (Seg.nil (At.then_ (Cd.seq ?_)))))
    refine Cd.condk rfl (fun h85 => ?_) (fun h85 => ?_)
    · refine Cd.skip (At.then_ (Cd.seq (Cd.block (Cd.seq (Cd.region ?_)))))
      (refine Seg.step rfl rfl (Yd.indexV rfl rfl rfl rfl (NatOf.cast _) hlt hv) ?_)
      refine Seg.step rfl rfl (Yd.assign rfl) (Seg.nil (At.then_ (Cd.seq (Cd.seq (Cd.region (Seg.step rfl rfl (Yd.move rfl) ?_))))))
      (refine Seg.call rfl rfl (own_of rfl) rfl (hwithin_any _ _ _) ?_; rw [hin]; rintro _ w101 ⟨rfl, hE101⟩)
      replace hE0 := Ext.trans hE0 hE101
      refine Seg.step rfl rfl (Yd.not rfl) (Seg.nil (At.then_ (Cd.condF rfl (Cd.skip (At.then_ (Cd.region (Seg.step rfl rfl (Yd.move rfl) ?_)))))))
      refine Seg.step rfl rfl (Yd.move rfl) ?_
      (refine Seg.call rfl rfl (own_of rfl) rfl (oput_any 2 m _ (by decide) (by omega)) ?_; rintro _ w111 ⟨rfl, hE111⟩)
      replace hE101 := Ext.trans hE101 hE111
      replace hE0 := Ext.trans hE0 hE111
      refine Seg.step rfl rfl (Yd.addS rfl rfl (by omega)) (Seg.step rfl rfl (Yd.assign rfl) (Seg.nil (At.blk (At.then_ (Cd.region (Seg.step rfl rfl (Yd.addI rfl rfl (by omega)) (Seg.step rfl rfl (Yd.move rfl) ?_)))))))
      refine Seg.nil ?_
      exact At.round (i + 1) (by rw [htk, ← List.append_assoc]; exact (.cons rfl (.cons rfl (.cons rfl (.nil _))))) ⟨hlt, hE0⟩ (Nat.sub_lt_sub_left hlt (Nat.lt_succ_self i))
    · exfalso; omega
  · obtain rfl : i = 4 := by omega
    refine Cd.seq (Cd.region (Seg.step rfl rfl (Yd.lss rfl rfl) (Seg.nil (At.then_ (Cd.seq (Cd.condF rfl (Cd.exit ?_)))))))
    refine At.then_exit (At.then_exit (At.blk_same (At.then_ (Cd.seq (Cd.region (Seg.step rfl rfl (Yd.move rfl) (Seg.step rfl rfl (Yd.assign rfl) ?_)))))))
    refine Seg.step rfl rfl (Yd.assign rfl) (Seg.nil (At.then_ (Cd.ret ?_)))
    exact At.ret Tryz.results16 (.tmp rfl (.tmp rfl .nil)) ⟨rfl, hE0⟩
/-- What two octets tell, from a place on. -/
def de2 (l : List UInt8) (k : Nat) : Nat := deB ((l.drop k).take 2)
def cntV (l : List UInt8) (i : Nat) : List Value := (List.range 4).map fun j => .int .i64 ((if j < i then de2 l (4 + 2 * j) else 0 : Nat) : Int)
def bt (n m : Int) : Bool := decide (bitsAnd .i64 n m ≠ 0)
def hdOf (l : List UInt8) : Hd :=
  { id := de2 l 0, qr := bt (de2 l 2) 32768, op := bitsAnd .i64 (IntKind.i64.wrap ((de2 l 2 : Int).tdiv 2048)) 15, aa := bt (de2 l 2) 1024, tc := bt (de2 l 2) 512, rd := bt (de2 l 2) 256, ra := bt (de2 l 2) 128, ad := bt (de2 l 2) 32, cd := bt (de2 l 2) 16, rc := bitsAnd .i64 (de2 l 2) 15 }
theorem de2_in {l : List UInt8} {k : Nat} (h : k + 2 ≤ 12) : deB (((l.take 12).drop k).take 2) = de2 l k := by
  unfold de2
  rw [List.drop_take, List.take_take, Nat.min_eq_left (by omega)]
theorem de2_lt (l : List UInt8) (k : Nat) : de2 l k < 65536 := by
  unfold de2
  have h := deB_lt ((l.drop k).take 2)
  have h2 : 256 ^ ((l.drop k).take 2).length ≤ 256 ^ 2 := Nat.pow_le_pow_right (by decide) (by rw [List.length_take]; omega)
  omega
theorem cntV_set (l : List UInt8) : ∀ i, i < 4 → (cntV l i).set i (.int .i64 (de2 l (4 + 2 * i) : Nat)) = cntV l (i + 1)
  | 0, _ => rfl
  | 1, _ => rfl
  | 2, _ => rfl
  | 3, _ => rfl
theorem hget_any (l : List UInt8) (w : World) (hl : 12 ≤ l.length) : Ret Tryz.prog 29 #[.string ⟨l.toArray⟩] w fun v w' => v = .tuple #[.agg (hdOf l).cells.toArray, .agg (cntV l 4).toArray, .int .i64 0] ∧ Ext w w' := by
  have hE0 := Ext.refl w
  have hl12 : (l.take 12).length = 12 := by rw [List.length_take]; omega
  refine Ret.body Tryz.func29 rfl Tryz.ntmps29 rfl (Cd.seq (Cd.region (Seg.alloc rfl rfl rfl (fun w15 b15 hE15 hB15 hb15 => ?_))))
  have hlt15_0 := Nat.le_trans hE0.size hb15
  replace hE0 := Ext.trans hE0 hE15
  refine Seg.alloc rfl rfl rfl (fun w16 b16 hE16 hB16 hb16 => ?_)
  have hlt16_0 := Nat.le_trans hE15.size hb16
  have hlt16_1 := Nat.lt_of_lt_of_le hB15.lt hb16
  have hlt16_2 := Nat.le_trans hE0.size hb16
  replace hE15 := Ext.trans hE15 hE16
  replace hB15 := hB15.ext hE16
  replace hE0 := Ext.trans hE0 hE16
  refine Seg.step rfl rfl (Yd.assign rfl) (Seg.nil (At.then_ (Cd.seq (Cd.region (Seg.alloc rfl rfl rfl (fun w22 b22 hE22 hB22 hb22 => ?_))))))
  have hlt22_0 := Nat.le_trans hE16.size hb22
  have hlt22_1 := Nat.lt_of_lt_of_le hB16.lt hb22
  have hlt22_2 := Nat.le_trans hE15.size hb22
  have hlt22_3 := Nat.lt_of_lt_of_le hB15.lt hb22
  have hlt22_4 := Nat.le_trans hE0.size hb22
  replace hE16 := Ext.trans hE16 hE22
  replace hB16 := hB16.ext hE22
  replace hE15 := Ext.trans hE15 hE22
  replace hB15 := hB15.ext hE22
  replace hE0 := Ext.trans hE0 hE22
  refine Seg.nil (At.then_ (Cd.seq (Cd.seq (Cd.region (Seg.step rfl rfl (Yd.move rfl) (Seg.step rfl rfl (Yd.lenStr rfl rfl) (Seg.step rfl rfl (Yd.lss rfl rfl) ?_)))))))
  refine Seg.nil (At.then_ ?_)
  refine Cd.condk rfl (fun h33 => ?_) (fun h33 => ?_)
  · exfalso; omega
  refine Cd.skip (At.then_ (Cd.seq (Cd.region (Seg.step rfl rfl (Yd.move rfl) (Seg.step rfl rfl (Yd.slStrH rfl rfl rfl (NatOf.cast 12) (by omega)) ?_)))))
  (refine Seg.call rfl rfl (own_of rfl) rfl (enew_any _ _) ?_; rintro _ w41 ⟨⟨y, rfl, hb41, hB41⟩, hE41⟩)
  have hlt41_0 := Nat.le_trans hE22.size hb41
  have hlt41_1 := Nat.lt_of_lt_of_le hB22.lt hb41
  have hlt41_2 := Nat.le_trans hE16.size hb41
  have hlt41_3 := Nat.lt_of_lt_of_le hB16.lt hb41
  have hlt41_4 := Nat.le_trans hE15.size hb41
  have hlt41_5 := Nat.lt_of_lt_of_le hB15.lt hb41
  have hlt41_6 := Nat.le_trans hE0.size hb41
  replace hE22 := Ext.trans hE22 hE41
  replace hB22 := hB22.ext hE41
  replace hE16 := Ext.trans hE16 hE41
  replace hB16 := hB16.ext hE41
  replace hE15 := Ext.trans hE15 hE41
  replace hB15 := hB15.ext hE41
  replace hE0 := Ext.trans hE0 hE41
  refine Seg.step rfl rfl (Yd.assign rfl) (Seg.nil (At.then_ (Cd.seq (Cd.region (Seg.step rfl rfl (Yd.move rfl) ?_)))))
  (refine Seg.call rfl rfl (own_of rfl) rfl (enum_any (l.take 12) y 2 _ (by assumption) (by omega) (by decide)) ?_; rintro _ w48 ⟨rfl, hW48, hB48⟩)
  replace hE41 := Ext.wr' hE41 hW48 (by omega)
  replace hE22 := Ext.wr' hE22 hW48 (by omega)
  replace hB22 := hB22.wr hW48 (by omega)
  replace hE16 := Ext.wr' hE16 hW48 (by omega)
  replace hB16 := hB16.wr hW48 (by omega)
  replace hE15 := Ext.wr' hE15 hW48 (by omega)
  replace hB15 := hB15.wr hW48 (by omega)
  replace hE0 := Ext.wr' hE0 hW48 (by omega)
  refine Seg.step rfl rfl (Yd.assign rfl) (Seg.nil (At.then_ (Cd.seq (Cd.region (Seg.step rfl rfl (Yd.move rfl) ?_)))))
  (refine Seg.call rfl rfl (own_of rfl) rfl (enum_any ((l.take 12).drop 2) y 2 _ (by assumption) (by rw [List.length_drop]; omega) (by decide)) ?_; rintro _ w55 ⟨rfl, hW55, hB55⟩)
  replace hW48 := Wr.trans hW48 hW55
  replace hE41 := Ext.wr' hE41 hW55 (by omega)
  replace hE22 := Ext.wr' hE22 hW55 (by omega)
  replace hB22 := hB22.wr hW55 (by omega)
  replace hE16 := Ext.wr' hE16 hW55 (by omega)
  replace hB16 := hB16.wr hW55 (by omega)
  replace hE15 := Ext.wr' hE15 hW55 (by omega)
  replace hB15 := hB15.wr hW55 (by omega)
  replace hE0 := Ext.wr' hE0 hW55 (by omega)
  refine Seg.step rfl rfl (Yd.assign rfl) (Seg.nil (At.then_ (Cd.seq (Cd.seq (Cd.region (Seg.step rfl rfl (Yd.move rfl) (Seg.nil ?_)))))))
  refine At.then_ (Cd.block ?_)
  have hB0 : Bx w55 y [.string ⟨((l.take 12).drop (4 + 2 * 0)).toArray⟩, .bool false] := by
    have h : Bx w55 y [.string ⟨(((l.take 12).drop 2).drop 2).toArray⟩, .bool false] := by assumption
    rwa [List.drop_drop] at h
  have hBc : Bx w55 b22 (cntV l 0) := hB22
  refine Cd.loop (σ := Nat) (fun i => [(0, .string ⟨l.toArray⟩), (2, .pointer (some ⟨b15, 0, none⟩)), (3, .pointer (some ⟨b16, 0, none⟩)), (4, .int .i64 0), (5, .pointer (some ⟨b22, 0, none⟩)), (6, .pointer (some ⟨y, 0, none⟩)), (7, .int .i64 (de2 l 0 : Nat)), (8, .int .i64 (de2 l 2 : Nat)), (23, .int .i64 (i : Int))])
    (fun i w' => i ≤ 4 ∧ Bx w' y [.string ⟨((l.take 12).drop (4 + 2 * i)).toArray⟩, .bool false] ∧ Bx w' b22 (cntV l i) ∧ Bx w' b15 zT26.cells.toList ∧ Bx w' b16 zT59.cells.toList ∧ Ext w w') (fun i => 4 - i) 0 (by rw [← de2_in (l := l) (k := 2) (by decide), ← de2_in (l := l) (k := 0) (by decide)]; exact (.cons rfl (.cons rfl (.cons rfl (.cons rfl (.cons rfl (.cons rfl (.cons rfl (.cons rfl (.cons rfl (.nil _))))))))))) ⟨Nat.zero_le _, hB0, hBc, hB15, hB16, by assumption⟩ ?_
  clear hB0 hBc hB15 hB16 hB22 hB55 hB48 hB41 hW55 hW48 hE0
  rintro i w1 ⟨hi, hBy, hBc, hB15, hB16, hE0⟩
  by_cases hlt : i < 4
  · have hdd : (((l.take 12).drop (4 + 2 * i)).drop 2) = (l.take 12).drop (4 + 2 * (i + 1)) := by rw [List.drop_drop]; congr 1
    have hset := cntV_set l i hlt
    refine Cd.seq (Cd.region (Seg.step rfl rfl (Yd.lss rfl rfl) (Seg.nil (At.then_ (Cd.seq ?_)))))
    refine Cd.condk rfl (fun h62 => ?_) (fun h62 => ?_)
    rotate_left 1
    · exfalso; omega
    rotate_right 1
    refine Cd.skip (At.then_ (Cd.seq (Cd.block (Cd.seq (Cd.region (Seg.step rfl rfl (Yd.move rfl) (Seg.step rfl rfl (Yd.assign rfl) ?_)))))))
    refine Seg.nil (At.then_ (Cd.region (Seg.step rfl rfl (Yd.move rfl) (Seg.step rfl rfl (Yd.move rfl) ?_))))
    (refine Seg.call rfl rfl (own_of rfl) rfl (enum_any ((l.take 12).drop (4 + 2 * i)) y 2 _ hBy (by rw [List.length_drop]; omega) (by decide)) ?_; rw [de2_in (by omega), hdd]; rintro _ w77 ⟨rfl, hW77, hB77⟩)
    replace hBc := hBc.wr hW77 (by omega)
    replace hB15 := hB15.wr hW77 (by omega)
    replace hB16 := hB16.wr hW77 (by omega)
    replace hE0 := Ext.wr' hE0 hW77 (by omega)
    refine Seg.step rfl rfl (Yd.indexArr1 rfl rfl rfl (NatOf.cast _) (by omega)) (Seg.store1 rfl rfl rfl rfl rfl hBc (show i < 4 from hlt) (fun w3 hW3 hB3 => ?_))
    rw [hset] at hB3
    have hE0 := Ext.wr' hE0 hW3 (by assumption)
    have hB15 := Bx.wr hB15 hW3 (by omega)
    have hB16 := Bx.wr hB16 hW3 (by omega)
    have hBy := Bx.wr (by assumption : Bx w77 y _) hW3 (by omega)
    refine Seg.nil (At.blk (At.then_ (Cd.region (Seg.step rfl rfl (Yd.addI rfl rfl (by omega)) (Seg.step rfl rfl (Yd.move rfl) (Seg.nil ?_))))))
    exact At.round (i + 1) (.cons rfl (.cons rfl (.cons rfl (.cons rfl (.cons rfl (.cons rfl (.cons rfl (.cons rfl (.cons rfl (.nil _)))))))))) ⟨hlt, hBy, hB3, hB15, hB16, hE0⟩ (Nat.sub_lt_sub_left hlt (Nat.lt_succ_self i))
  · obtain rfl : i = 4 := by omega
    refine Cd.seq (Cd.region (Seg.step rfl rfl (Yd.lss rfl rfl) (Seg.nil (At.then_ (Cd.seq (Cd.condF rfl (Cd.exit ?_)))))))
    refine At.then_exit (At.then_exit (At.blk_same (At.then_ (Cd.seq (Cd.region (Seg.step rfl rfl (Yd.move rfl) (Seg.step rfl rfl (Yd.move rfl) ?_)))))))
    refine Seg.step rfl rfl (Yd.and rfl rfl) (Seg.step rfl rfl (Yd.neq rfl rfl) (Seg.step rfl rfl (Yd.move rfl) (Seg.step rfl rfl (Yd.quo rfl rfl (by omega)) (Seg.step rfl rfl (Yd.and rfl rfl) (Seg.step rfl rfl (Yd.move rfl) (Seg.step rfl rfl (Yd.and rfl rfl) (Seg.step rfl rfl (Yd.neq rfl rfl) ?_)))))))
    refine Seg.step rfl rfl (Yd.move rfl) (Seg.step rfl rfl (Yd.and rfl rfl) (Seg.step rfl rfl (Yd.neq rfl rfl) (Seg.step rfl rfl (Yd.move rfl) (Seg.step rfl rfl (Yd.and rfl rfl) (Seg.step rfl rfl (Yd.neq rfl rfl) (Seg.step rfl rfl (Yd.move rfl) (Seg.step rfl rfl (Yd.and rfl rfl) ?_)))))))
    refine Seg.step rfl rfl (Yd.neq rfl rfl) (Seg.step rfl rfl (Yd.move rfl) (Seg.step rfl rfl (Yd.and rfl rfl) (Seg.step rfl rfl (Yd.neq rfl rfl) (Seg.step rfl rfl (Yd.move rfl) (Seg.step rfl rfl (Yd.and rfl rfl) (Seg.step rfl rfl (Yd.neq rfl rfl) (Seg.step rfl rfl (Yd.move rfl) ?_)))))))
    refine Seg.step rfl rfl (Yd.and rfl rfl) (Seg.step rfl rfl (Yd.buildT (cs := _ :: _ :: _ :: _ :: _ :: _ :: _ :: _ :: _ :: _ :: []) 10 rfl rfl rfl rfl rfl) (Seg.alloc rfl rfl rfl (fun w98 b98 hE98 hB98 hb98 => ?_)))
    have hlt98_0 := Nat.lt_of_lt_of_le hB15.lt hb98
    have hlt98_1 := Nat.lt_of_lt_of_le hB16.lt hb98
    have hlt98_2 := Nat.le_trans hE0.size hb98
    have hlt98_3 := Nat.lt_of_lt_of_le hBy.lt hb98
    have hlt98_4 := Nat.lt_of_lt_of_le hBc.lt hb98
    replace hB15 := hB15.ext hE98
    replace hB16 := hB16.ext hE98
    replace hE0 := Ext.trans hE0 hE98
    replace hBy := hBy.ext hE98
    replace hBc := hBc.ext hE98
    refine Seg.storeN rfl rfl rfl rfl hB98 rfl (by first | assumption | exact List.all_eq_true.1 rfl) (fun w99 hW99 hB99 => ?_)
    clear hB98
    replace hE98 := Ext.wr' hE98 hW99 (by omega)
    replace hB15 := hB15.wr hW99 (by omega)
    replace hB16 := hB16.wr hW99 (by omega)
    replace hE0 := Ext.wr' hE0 hW99 (by omega)
    replace hBy := hBy.wr hW99 (by omega)
    replace hBc := hBc.wr hW99 (by omega)
    refine Seg.nil (At.then_ (Cd.seq (Cd.anyE (by kernel_rfl) (fun w103 hE103 => ?_))))
    replace hW99 := Wr.trans hW99 (Ext.wr hE103 _)
    replace hB99 := hB99.ext hE103
    replace hE98 := Ext.trans hE98 hE103
    replace hB15 := hB15.ext hE103
    replace hB16 := hB16.ext hE103
    replace hE0 := Ext.trans hE0 hE103
    replace hBy := hBy.ext hE103
    replace hBc := hBc.ext hE103
    refine SegA.held 2 (SegG.take 0 rfl (by kernel_rfl) (by kernel_rfl) (by kernel_rfl) (by kernel_rfl) (by kernel_rfl) rfl rfl (fun w' hw' => Yd.loadN rfl rfl rfl (hB99.ext hw').row) ?_)
    refine SegG.twoSeg (o := ⟨_, _, _, _, _, _⟩) (o' := ⟨_, _, _, _, _, _⟩) 1 2 rfl rfl (by kernel_rfl) ?_ ?_
    refine Seg.step rfl rfl (Yd.loadN rfl rfl rfl hBc.row) (SegG.back rfl (by first | assumption | exact Ext.refl _) (SegG.oneSeg (o := ⟨_, _, _, _, _, _⟩) 2 rfl (by kernel_rfl) (Seg.storeN rfl rfl rfl rfl hB15 rfl (by first | assumption | exact List.all_eq_true.1 rfl) (fun w110 hW110 hB110 => ?_))))
    clear hB15
    replace hB99 := hB99.wr hW110 (by omega)
    replace hB16 := hB16.wr hW110 (by omega)
    replace hE0 := Ext.wr' hE0 hW110 (by omega)
    replace hBy := hBy.wr hW110 (by omega)
    replace hBc := hBc.wr hW110 (by omega)
    refine SegG.end_ rfl (SegA.oneSeg (o := ⟨_, _, _, _, _, _⟩) 3 rfl (by kernel_rfl) (Seg.storeN rfl rfl rfl rfl hB16 rfl (by first | assumption | exact List.all_eq_true.1 rfl) (fun w113 hW113 hB113 => ?_)))
    clear hB16
    replace hB110 := hB110.wr hW113 (by omega)
    replace hB99 := hB99.wr hW113 (by omega)
    replace hE0 := Ext.wr' hE0 hW113 (by omega)
    replace hBy := hBy.wr hW113 (by omega)
    replace hBc := hBc.wr hW113 (by omega)
    refine SegA.back (SegA.pure 4 rfl (by kernel_rfl) (by kernel_rfl) (by kernel_rfl) rfl rfl (fun _ => Yd.assign rfl) (SegA.done (by kernel_rfl) (At.then_ (Cd.ret ?_))))
    exact At.ret Tryz.results29 (.cell rfl (run_loadVarN (cs := (hdOf l).cells) rfl rfl (Bx.row (cs := (hdOf l).cells) hB110)) (.cell rfl (run_loadVarN (cs := cntV l 4) rfl rfl (Bx.row (cs := cntV l 4) hB113)) (.tmp rfl .nil))) ⟨rfl, hE0⟩
    refine Seg.storeN rfl rfl rfl rfl hB15 rfl (by first | assumption | exact List.all_eq_true.1 rfl) (fun w104 hW104 hB104 => ?_)
    clear hB15
    replace hB99 := hB99.wr hW104 (by omega)
    replace hB16 := hB16.wr hW104 (by omega)
    replace hE0 := Ext.wr' hE0 hW104 (by omega)
    replace hBy := hBy.wr hW104 (by omega)
    replace hBc := hBc.wr hW104 (by omega)
    refine SegG.end_ rfl (SegA.oneSeg (o := ⟨_, _, _, _, _, _⟩) 1 rfl (by kernel_rfl) (Seg.step rfl rfl (Yd.loadN rfl rfl rfl hBc.row) (SegA.back (SegA.oneSeg (o := ⟨_, _, _, _, _, _⟩) 3 rfl (by kernel_rfl) (Seg.storeN rfl rfl rfl rfl hB16 rfl (by first | assumption | exact List.all_eq_true.1 rfl) (fun w110 hW110 hB110 => ?_))))))
    clear hB16
    replace hB104 := hB104.wr hW110 (by omega)
    replace hB99 := hB99.wr hW110 (by omega)
    replace hE0 := Ext.wr' hE0 hW110 (by omega)
    replace hBy := hBy.wr hW110 (by omega)
    replace hBc := hBc.wr hW110 (by omega)
    refine SegA.back (SegA.pure 4 rfl (by kernel_rfl) (by kernel_rfl) (by kernel_rfl) rfl rfl (fun _ => Yd.assign rfl) (SegA.done (by kernel_rfl) (At.then_ (Cd.ret ?_))))
    exact At.ret Tryz.results29 (.cell rfl (run_loadVarN (cs := (hdOf l).cells) rfl rfl (Bx.row (cs := (hdOf l).cells) hB104)) (.cell rfl (run_loadVarN (cs := cntV l 4) rfl rfl (Bx.row (cs := cntV l 4) hB110)) (.tmp rfl .nil))) ⟨rfl, hE0⟩
theorem and_pow (n k : Nat) : n &&& 2 ^ k = if n / 2 ^ k % 2 = 1 then 2 ^ k else 0 := by
  apply Nat.eq_of_testBit_eq
  intro i
  rw [Nat.testBit_and, Nat.testBit_two_pow]
  have h := Nat.testBit_eq_decide_div_mod_eq (x := n) (i := k)
  by_cases hc : n / 2 ^ k % 2 = 1
  · rw [if_pos hc, Nat.testBit_two_pow]
    by_cases hi : k = i
    · subst hi; rw [h]; simp [hc]
    · simp [hi]
  · rw [if_neg hc, Nat.zero_testBit]
    by_cases hi : k = i
    · subst hi; rw [h]; simp [hc]
    · simp [hi]
theorem bt_at {n : Nat} (h : n < 65536) (k : Nat) (hk : k < 16) : bt n ((2 ^ k : Nat) : Int) = decide (n / 2 ^ k % 2 = 1) := by
  have hp : 2 ^ k < 65536 := Nat.pow_lt_pow_right (by decide) hk
  unfold bt
  rw [bitsAnd_nat (by show _ < 2 ^ 64; omega) (by show _ < 2 ^ 64; omega), and_pow]
  have h0 : 0 < 2 ^ k := Nat.pow_pos (by decide)
  generalize 2 ^ k = m at hp h0 ⊢
  by_cases hc : n / m % 2 = 1
  · rw [if_pos hc, IntWalk.i64_in _ ⟨by omega, by omega⟩]
    simp only [hc, decide_true]
    rw [decide_eq_true]
    omega
  · rw [if_neg hc]
    simp only [hc, decide_false]
    decide
theorem and15 {n : Nat} (h : n < 65536) : bitsAnd .i64 (n : Int) 15 = ((n % 16 : Nat) : Int) := by
  have e := bitsAnd_nat (k := .i64) (a := n) (b := 15) (by show _ < 2 ^ 64; omega) (by decide)
  rw [show ((15 : Nat) : Int) = 15 from rfl] at e
  rw [e, show 15 = 2 ^ 4 - 1 from rfl, Nat.and_two_pow_sub_one_eq_mod]
  exact IntWalk.i64_in _ ⟨by omega, by omega⟩
theorem bitI_nat (b : Bool) (n : Nat) : bitI b n = ((b.toNat * n : Nat) : Int) := by cases b <;> simp [bitI]
theorem hdB_de (h : Hd) (c : List Nat) (r : List UInt8) : de2 (hdB h c ++ r) 0 = h.id.toNat % 65536 ∧ de2 (hdB h c ++ r) 2 = h.num.toNat % 65536 := by
  have e1 := beB_len 2 h.id.toNat
  have e2 := beB_len 2 h.num.toNat
  unfold de2 hdB
  constructor
  · rw [List.drop_zero, List.append_assoc, List.append_assoc, List.take_append_of_le_length (by omega), List.take_of_length_le (by omega), deB_beB]
  · rw [List.append_assoc, List.append_assoc, List.drop_append_of_le_length (by omega), List.drop_of_length_le (by omega), List.nil_append, List.take_append_of_le_length (by omega), List.take_of_length_le (by omega), deB_beB]
theorem hdOf_hdB {h : Hd} (hok : HdOk h) (c : List Nat) (r : List UInt8) : hdOf (hdB h c ++ r) = h := by
  obtain ⟨e0, e2⟩ := hdB_de h c r
  have hb := num_bd hok
  obtain ⟨id, qr, op, aa, tc, rd, ra, ad, cd, rc⟩ := h
  obtain ⟨⟨hi0, hi1⟩, ⟨ho0, ho1⟩, hr0, hr1⟩ := hok
  simp only at hi0 hi1 ho0 ho1 hr0 hr1
  obtain ⟨id, rfl⟩ := Int.eq_ofNat_of_zero_le hi0
  obtain ⟨op, rfl⟩ := Int.eq_ofNat_of_zero_le ho0
  obtain ⟨rc, rfl⟩ := Int.eq_ofNat_of_zero_le hr0
  have hn : ∃ N : Nat, N = qr.toNat * 32768 + op * 2048 + aa.toNat * 1024 + tc.toNat * 512 + rd.toNat * 256 + ra.toNat * 128 + ad.toNat * 32 + cd.toNat * 16 + rc := ⟨_, rfl⟩
  obtain ⟨N, hN⟩ := hn
  have hnum : Hd.num ⟨(id : Int), qr, (op : Int), aa, tc, rd, ra, ad, cd, (rc : Int)⟩ = (N : Int) := by
    unfold Hd.num
    rw [show (32768 : Int) = ((32768 : Nat) : Int) from rfl, show (1024 : Int) = ((1024 : Nat) : Int) from rfl, show (512 : Int) = ((512 : Nat) : Int) from rfl, show (256 : Int) = ((256 : Nat) : Int) from rfl, show (128 : Int) = ((128 : Nat) : Int) from rfl, show (32 : Int) = ((32 : Nat) : Int) from rfl, show (16 : Int) = ((16 : Nat) : Int) from rfl]
    simp only [bitI_nat]
    omega
  rw [hnum] at hb e2
  have hNl : N < 65536 := by omega
  rw [Int.toNat_natCast, Nat.mod_eq_of_lt hNl] at e2
  have e0' : de2 (hdB ⟨(id : Int), qr, (op : Int), aa, tc, rd, ra, ad, cd, (rc : Int)⟩ c ++ r) 0 = id := by
    rw [e0]; simp only [Int.toNat_natCast]; omega
  have q1 := Bool.toNat_le qr
  have q2 := Bool.toNat_le aa
  have q3 := Bool.toNat_le tc
  have q4 := Bool.toNat_le rd
  have q5 := Bool.toNat_le ra
  have q6 := Bool.toNat_le ad
  have q7 := Bool.toNat_le cd
  have hbool : ∀ (b : Bool) (x : Nat), x = b.toNat → decide (x = 1) = b := fun b x h => by subst h; cases b <;> rfl
  unfold hdOf
  rw [e0', e2]
  have s1 : (N : Int).tdiv 2048 = ((N / 2048 : Nat) : Int) := by rw [Int.tdiv_eq_ediv_of_nonneg (by omega)]; rfl
  have s2 : IntKind.i64.wrap ((N / 2048 : Nat) : Int) = ((N / 2048 : Nat) : Int) := IntWalk.i64_in _ ⟨by omega, by omega⟩
  rw [s1, s2, and15 (show N / 2048 < 65536 by omega), and15 hNl]
  have b1 := bt_at hNl 15 (by decide)
  have b2 := bt_at hNl 10 (by decide)
  have b3 := bt_at hNl 9 (by decide)
  have b4 := bt_at hNl 8 (by decide)
  have b5 := bt_at hNl 7 (by decide)
  have b6 := bt_at hNl 5 (by decide)
  have b7 := bt_at hNl 4 (by decide)
  rw [hbool qr _ (by omega)] at b1
  rw [hbool aa _ (by omega)] at b2
  rw [hbool tc _ (by omega)] at b3
  rw [hbool rd _ (by omega)] at b4
  rw [hbool ra _ (by omega)] at b5
  rw [hbool ad _ (by omega)] at b6
  rw [hbool cd _ (by omega)] at b7
  congr 1 <;> first | exact b1 | exact b2 | exact b3 | exact b4 | exact b5 | exact b6 | exact b7 | (congr 1; omega)
theorem be_at {c : List Nat} {i n : Nat} (h : c[i]? = some n) : ((c.flatMap (beB 2)).drop (2 * i)).take 2 = beB 2 n := by
  induction c generalizing i with
  | nil => simp at h
  | cons m c ih =>
    have em := beB_len 2 m
    cases i with
    | zero =>
      simp at h; subst h
      rw [List.flatMap_cons, Nat.mul_zero, List.drop_zero, List.take_append_of_le_length (by omega), List.take_of_length_le (by omega)]
    | succ i =>
      rw [List.flatMap_cons, show 2 * (i + 1) = (beB 2 m).length + 2 * i by omega, ← List.drop_drop, List.drop_left]
      exact ih (by simpa using h)
theorem hdB_len (h : Hd) (c : List Nat) : (hdB h c).length = 4 + 2 * c.length := by
  unfold hdB
  rw [List.length_append, List.length_append, beB_len, beB_len, be_flat]; omega
theorem cnt_hdB {h : Hd} {c : List Nat} (hc : c.length = 4) (hcl : ∀ n ∈ c, n ≤ 65535) (r : List UInt8) : cntV (hdB h c ++ r) 4 = c.map fun n : Nat => Value.int .i64 (n : Int) := by
  have key : ∀ i n, c[i]? = some n → de2 (hdB h c ++ r) (4 + 2 * i) = n := fun i n hn => by
    have hi := (List.getElem?_eq_some_iff.1 hn).1
    have hnl := hcl n (List.mem_of_getElem? hn)
    have h4 : (beB 2 h.id.toNat ++ beB 2 h.num.toNat).length = 4 := by rw [List.length_append, beB_len, beB_len]
    unfold de2
    rw [show 4 + 2 * i = (beB 2 h.id.toNat ++ beB 2 h.num.toNat).length + 2 * i by omega]
    unfold hdB
    rw [List.append_assoc, ← List.drop_drop, List.drop_left, List.drop_append_of_le_length (by rw [be_flat]; omega), List.take_append_of_le_length (by rw [List.length_drop, be_flat]; omega), be_at hn, deB_beB]
    omega
  match c, hc with
  | [a, b, d, e], _ =>
    have k0 := key 0 a rfl
    have k1 := key 1 b rfl
    have k2 := key 2 d rfl
    have k3 := key 3 e rfl
    simp only [cntV, show List.range 4 = [0, 1, 2, 3] from rfl, List.map_cons, List.map_nil]
    simp only [show (0 < 4) = True from eq_true (by decide), show (1 < 4) = True from eq_true (by decide), show (2 < 4) = True from eq_true (by decide), show (3 < 4) = True from eq_true (by decide), if_true, k0, k1, k2, k3]
end Go.Proofs.YtahpiaaffeiadaaGreat
