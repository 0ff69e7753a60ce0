/- Lots: what is drawn; the walks of lot and of the reference. -/
import Derived.Test.YtccppgpedlfjdaaWkg
import Derived.Test.YtccppgpedlfjdaaWkt
namespace Go.Proofs.Ytccppgpedlfjdaa
open Go Go.RowKit

def ints (xs : List Int) : List Value := xs.map (.int .i64)
theorem ints_get {xs : List Int} {i : Nat} (h : i < xs.length) : (ints xs)[i]? = some (.int .i64 (xs.getD i 0)) := by
  simp [ints, h, List.getD]
/-- What a lot of xs, of which u were drawn, gives below n. -/
def drawn (xs : List Int) (u : Nat) : Int := if u < xs.length then xs.getD u 0 else u
def drawVal (xs : List Int) (u : Nat) (n : Int) : Int := IntKind.u64.wrap (drawn xs u) % n
theorem drawVal_bd (xs : List Int) (u : Nat) {n : Int} (h : 1 ≤ n) : 0 ≤ drawVal xs u n ∧ drawVal xs u n < n :=
  ⟨Int.emod_nonneg _ (by omega), Int.emod_lt_of_pos _ (by omega)⟩

theorem u64_id {n : Int} (h0 : 0 ≤ n) (h1 : n ≤ 9223372036854775807) : IntKind.u64.wrap n = n := IntWalk.u64_in n ⟨h0, by omega⟩
theorem i64_id {n : Int} (h0 : 0 ≤ n) (h1 : n ≤ 9223372036854775807) : IntKind.i64.wrap n = n := IntWalk.i64_in n ⟨by omega, h1⟩
theorem u64_nn (n : Int) : 0 ≤ IntKind.u64.wrap n := by rw [IntKind.wrap_u64]; omega

theorem draw_close (d : Int) {n : Int} (h : 1 ≤ n) (h' : n ≤ 9223372036854775807) : Value.int .i64 (IntKind.i64.wrap ((IntKind.u64.wrap d).tmod (IntKind.u64.wrap n))) = .int .i64 (IntKind.u64.wrap d % n) := by
  rw [u64_id (by omega) h', Int.tmod_eq_emod_of_nonneg (u64_nn d), i64_id (Int.emod_nonneg _ (by omega)) (by have := Int.emod_lt_of_pos (IntKind.u64.wrap d) (show 0 < n by omega); omega)]

theorem draw_nil (n : Int) (w : World) : Ret Try.prog 9 #[.pointer none, .int .i64 n] w fun v w' => v = .int .i64 0 ∧ Ext w w' := by
  have hE0 := Ext.refl w
  refine Ret.body Try.func9 rfl Try.ntmps9 rfl ?_
  refine Cd.seq ?_
  refine Cd.region ?_
  refine Seg.step rfl rfl (Yd.assign rfl) ?_
  refine Seg.nil ?_
  refine At.then_ ?_
  refine Cd.seq ?_
  refine Cd.seq ?_
  refine Cd.region ?_
  refine Seg.step rfl rfl (Yd.move rfl) ?_
  refine Seg.step rfl rfl (Yd.eqlNilP rfl rfl rfl) ?_
  refine Seg.step rfl rfl (Yd.move rfl) ?_
  refine Seg.skip rfl rfl ?_
  refine Seg.skip rfl rfl ?_
  refine Seg.step rfl rfl (Yd.pickT rfl rfl) ?_
  refine Seg.nil ?_
  refine At.then_ ?_
  refine Cd.condT rfl ?_
  refine Cd.seq ?_
  refine Cd.region ?_
  refine Seg.step rfl rfl (Yd.assign rfl) ?_
  refine Seg.nil ?_
  refine At.then_ ?_
  refine Cd.ret ?_
  refine At.then_ret ?_
  exact At.ret Try.results9 (.tmp rfl .nil) ⟨rfl, hE0⟩
theorem draw_neg (p : Option Addr) (n : Int) (hn : n < 1) (w : World) : Ret Try.prog 9 #[.pointer p, .int .i64 n] w fun v w' => v = .int .i64 0 ∧ Ext w w' := by
  have hE0 := Ext.refl w
  refine Ret.body Try.func9 rfl Try.ntmps9 rfl ?_
  refine Cd.seq ?_
  refine Cd.region ?_
  refine Seg.step rfl rfl (Yd.assign rfl) ?_
  refine Seg.nil ?_
  refine At.then_ ?_
  refine Cd.seq ?_
  refine Cd.seq ?_
  refine Cd.region ?_
  refine Seg.step rfl rfl (Yd.move rfl) ?_
  refine Seg.step rfl rfl (Yd.eqlNilP rfl rfl rfl) ?_
  refine Seg.step rfl rfl (Yd.move rfl) ?_
  refine Seg.gsplit rfl rfl (fun h12 => ?_) (fun h12 => ?_)
  · refine Seg.skip rfl rfl ?_
    refine Seg.skip rfl rfl ?_
    refine Seg.step rfl rfl (Yd.pickT rfl rfl) ?_
    refine Seg.nil ?_
    refine At.then_ ?_
    refine Cd.condT rfl ?_
    refine Cd.seq ?_
    refine Cd.region ?_
    refine Seg.step rfl rfl (Yd.assign rfl) ?_
    refine Seg.nil ?_
    refine At.then_ ?_
    refine Cd.ret ?_
    refine At.then_ret ?_
    exact At.ret Try.results9 (.tmp rfl .nil) ⟨rfl, hE0⟩
  · refine Seg.step rfl rfl (Yd.move rfl) ?_
    refine Seg.step rfl rfl (Yd.lss rfl rfl) ?_
    refine Seg.step rfl rfl (Yd.pickF rfl rfl) ?_
    refine Seg.nil ?_
    refine At.then_ ?_
    refine Cd.condk rfl (fun h34 => ?_) (fun h34 => ?_)
    · refine Cd.seq ?_
      refine Cd.region ?_
      refine Seg.step rfl rfl (Yd.assign rfl) ?_
      refine Seg.nil ?_
      refine At.then_ ?_
      refine Cd.ret ?_
      refine At.then_ret ?_
      exact At.ret Try.results9 (.tmp rfl .nil) ⟨rfl, hE0⟩
    · exfalso; omega
theorem draw_pos (b : Nat) (xs : List Int) (u : Nat) (n : Int) (v : Value) (w : World) (hn : 1 ≤ n) (hn' : n ≤ 9223372036854775807) (hu : u < 4611686018427387904) (hB : Bx w b [v, .int .i64 u]) (hs : Sl w 1 v xs.length (ints xs)) :
    Ret Try.prog 9 #[.pointer (some ⟨b, 0, none⟩), .int .i64 n] w fun r w' => r = .int .i64 (drawVal xs u n) ∧ Wr b w w' ∧ Bx w' b [v, .int .i64 (u + 1)] := by
  have hWr := Ext.wr (Ext.refl w) b
  obtain ⟨ao, c, rfl, hl, hr, hz⟩ := hs
  have hv := drawVal_bd xs u hn
  have hnn := u64_nn (drawn xs u)
  have hn2 := u64_id (n := n) (by omega) hn'
  by_cases hlt : u < xs.length
  · obtain ⟨a, rfl⟩ : ∃ a, ao = some a := by
      cases ao with
      | none => have := hz rfl; omega
      | some a => exact ⟨a, rfl⟩
    have hr := hr a rfl
    have hd : drawn xs u = xs.getD u 0 := by simp [drawn, hlt]
    refine Ret.body Try.func9 rfl Try.ntmps9 rfl ?_
    refine Cd.seq ?_
    refine Cd.region ?_
    refine Seg.step rfl rfl (Yd.assign rfl) ?_
    refine Seg.nil ?_
    refine At.then_ ?_
    refine Cd.seq ?_
    refine Cd.seq ?_
    refine Cd.region ?_
    refine Seg.step rfl rfl (Yd.move rfl) ?_
    refine Seg.step rfl rfl (Yd.eqlNilP rfl rfl rfl) ?_
    refine Seg.step rfl rfl (Yd.move rfl) ?_
    refine Seg.step rfl rfl (Yd.move rfl) ?_
    refine Seg.step rfl rfl (Yd.lss rfl rfl) ?_
    refine Seg.step rfl rfl (Yd.pickF rfl rfl) ?_
    refine Seg.nil ?_
    refine At.then_ ?_
    refine Cd.condk rfl (fun h19 => ?_) (fun h19 => ?_)
    · exfalso; omega
    · refine Cd.skip ?_
      refine At.then_ ?_
      refine Cd.seq ?_
      refine Cd.region ?_
      refine Seg.step rfl rfl (Yd.move rfl) ?_
      refine Seg.step rfl rfl (Yd.nilCheckP rfl) ?_
      refine Seg.step rfl rfl (Yd.fieldAddr rfl rfl) ?_
      refine Seg.step rfl rfl (Yd.load1 rfl rfl (hB.row _ _ rfl)) ?_
      refine Seg.step rfl rfl (Yd.assign rfl) ?_
      refine Seg.nil ?_
      refine At.then_ ?_
      refine Cd.seq ?_
      refine Cd.seq ?_
      refine Cd.quiet (by kernel_rfl) (by kernel_rfl) ?_
      refine SegQ.step rfl rfl (fun w' hw' => Yd.move rfl) ?_
      refine SegQ.step rfl rfl (fun w' hw' => Yd.nilCheckP rfl) ?_
      refine SegQ.step rfl rfl (fun w' hw' => Yd.fieldAddr rfl rfl) ?_
      refine SegQ.step rfl rfl (fun w' hw' => Yd.load1 rfl rfl ((hB.ext hw').row _ _ rfl)) ?_
      refine SegQ.step rfl rfl (fun w' hw' => Yd.move rfl) ?_
      refine SegQ.step rfl rfl (fun w' hw' => Yd.nilCheckP rfl) ?_
      refine SegQ.step rfl rfl (fun w' hw' => Yd.fieldAddr rfl rfl) ?_
      refine SegQ.step rfl rfl (fun w' hw' => Yd.load1 rfl rfl ((hB.ext hw').row _ _ rfl)) ?_
      refine SegQ.step rfl rfl (fun w' hw' => Yd.lenS rfl rfl) ?_
      refine SegQ.step rfl rfl (fun w' hw' => Yd.lss rfl rfl) ?_
      refine SegQ.nil fun w45 hE45 => ?_
      replace hWr := Wr.trans hWr (Ext.wr hE45 _)
      replace hB := hB.ext hE45
      replace hr := hr.ext hE45
      refine At.then_ ?_
      refine Cd.condk rfl (fun h47 => ?_) (fun h47 => ?_)
      · refine Cd.quiet (by kernel_rfl) (by kernel_rfl) ?_
        refine SegQ.step rfl rfl (fun w' hw' => Yd.move rfl) ?_
        refine SegQ.step rfl rfl (fun w' hw' => Yd.nilCheckP rfl) ?_
        refine SegQ.step rfl rfl (fun w' hw' => Yd.fieldAddr rfl rfl) ?_
        refine SegQ.step rfl rfl (fun w' hw' => Yd.load1 rfl rfl ((hB.ext hw').row _ _ rfl)) ?_
        refine SegQ.step rfl rfl (fun w' hw' => Yd.move rfl) ?_
        refine SegQ.step rfl rfl (fun w' hw' => Yd.nilCheckP rfl) ?_
        refine SegQ.step rfl rfl (fun w' hw' => Yd.fieldAddr rfl rfl) ?_
        refine SegQ.step rfl rfl (fun w' hw' => Yd.load1 rfl rfl ((hB.ext hw').row _ _ rfl)) ?_
        refine SegQ.step rfl rfl (fun w' hw' => Yd.indexAddr1 rfl rfl rfl (NatOf.cast _) (by omega)) ?_
        refine SegQ.step rfl rfl (fun w' hw' => Yd.load1 rfl rfl ((hr.ext hw') _ _ (ints_get hlt))) ?_
        refine SegQ.step rfl rfl (fun w' hw' => Yd.assign rfl) ?_
        refine SegQ.nil fun w61 hE61 => ?_
        replace hE45 := Ext.trans hE45 hE61
        replace hWr := Wr.trans hWr (Ext.wr hE61 _)
        replace hB := hB.ext hE61
        replace hr := hr.ext hE61
        refine At.then_ ?_
        refine Cd.seq ?_
        refine Cd.region ?_
        refine Seg.step rfl rfl (Yd.move rfl) ?_
        refine Seg.step rfl rfl (Yd.nilCheckP rfl) ?_
        refine Seg.step rfl rfl (Yd.fieldAddr rfl rfl) ?_
        refine Seg.step rfl rfl (Yd.load1 rfl rfl (hB.row _ _ rfl)) ?_
        refine Seg.step rfl rfl (Yd.addI rfl rfl (by omega)) ?_
        refine Seg.step rfl rfl (Yd.nilCheckP rfl) ?_
        refine Seg.step rfl rfl (Yd.fieldAddr rfl rfl) ?_
        refine Seg.store1 rfl rfl rfl rfl rfl hB (by first | omega | (simp; done) | exact Nat.le_of_ble_eq_true rfl) (fun w72 hW72 hB72 => ?_)
        clear hB
        replace hWr := Wr.trans hWr hW72
        refine Seg.nil ?_
        refine At.then_ ?_
        refine Cd.seq ?_
        refine Cd.region ?_
        refine Seg.step rfl rfl (Yd.move rfl) ?_
        refine Seg.step rfl rfl (Yd.convI rfl rfl rfl) ?_
        refine Seg.step rfl rfl (Yd.move rfl) ?_
        refine Seg.step rfl rfl (Yd.convI rfl rfl rfl) ?_
        refine Seg.step rfl rfl (Yd.rem rfl rfl (by omega)) ?_
        refine Seg.step rfl rfl (Yd.convI rfl rfl rfl) ?_
        refine Seg.step rfl rfl (Yd.assign rfl) ?_
        refine Seg.nil ?_
        refine At.then_ ?_
        refine Cd.ret ?_
        exact At.ret Try.results9 (.tmp rfl .nil) ⟨by rw [← hd]; exact draw_close _ hn hn', hWr, by assumption⟩
      · exfalso; omega
  · have hd : drawn xs u = u := by simp [drawn, hlt]
    refine Ret.body Try.func9 rfl Try.ntmps9 rfl ?_
    refine Cd.seq ?_
    refine Cd.region ?_
    refine Seg.step rfl rfl (Yd.assign rfl) ?_
    refine Seg.nil ?_
    refine At.then_ ?_
    refine Cd.seq ?_
    refine Cd.seq ?_
    refine Cd.region ?_
    refine Seg.step rfl rfl (Yd.move rfl) ?_
    refine Seg.step rfl rfl (Yd.eqlNilP rfl rfl rfl) ?_
    refine Seg.step rfl rfl (Yd.move rfl) ?_
    refine Seg.step rfl rfl (Yd.move rfl) ?_
    refine Seg.step rfl rfl (Yd.lss rfl rfl) ?_
    refine Seg.step rfl rfl (Yd.pickF rfl rfl) ?_
    refine Seg.nil ?_
    refine At.then_ ?_
    refine Cd.condk rfl (fun h19 => ?_) (fun h19 => ?_)
    · exfalso; omega
    · refine Cd.skip ?_
      refine At.then_ ?_
      refine Cd.seq ?_
      refine Cd.region ?_
      refine Seg.step rfl rfl (Yd.move rfl) ?_
      refine Seg.step rfl rfl (Yd.nilCheckP rfl) ?_
      refine Seg.step rfl rfl (Yd.fieldAddr rfl rfl) ?_
      refine Seg.step rfl rfl (Yd.load1 rfl rfl (hB.row _ _ rfl)) ?_
      refine Seg.step rfl rfl (Yd.assign rfl) ?_
      refine Seg.nil ?_
      refine At.then_ ?_
      refine Cd.seq ?_
      refine Cd.seq ?_
      refine Cd.quiet (by kernel_rfl) (by kernel_rfl) ?_
      refine SegQ.step rfl rfl (fun w' hw' => Yd.move rfl) ?_
      refine SegQ.step rfl rfl (fun w' hw' => Yd.nilCheckP rfl) ?_
      refine SegQ.step rfl rfl (fun w' hw' => Yd.fieldAddr rfl rfl) ?_
      refine SegQ.step rfl rfl (fun w' hw' => Yd.load1 rfl rfl ((hB.ext hw').row _ _ rfl)) ?_
      refine SegQ.step rfl rfl (fun w' hw' => Yd.move rfl) ?_
      refine SegQ.step rfl rfl (fun w' hw' => Yd.nilCheckP rfl) ?_
      refine SegQ.step rfl rfl (fun w' hw' => Yd.fieldAddr rfl rfl) ?_
      refine SegQ.step rfl rfl (fun w' hw' => Yd.load1 rfl rfl ((hB.ext hw').row _ _ rfl)) ?_
      refine SegQ.step rfl rfl (fun w' hw' => Yd.lenS rfl rfl) ?_
      refine SegQ.step rfl rfl (fun w' hw' => Yd.lss rfl rfl) ?_
      refine SegQ.nil fun w45 hE45 => ?_
      replace hWr := Wr.trans hWr (Ext.wr hE45 _)
      replace hB := hB.ext hE45
      refine At.then_ ?_
      refine Cd.condk rfl (fun h47 => ?_) (fun h47 => ?_)
      · exfalso; omega
      · refine Cd.skip ?_
        refine At.then_ ?_
        refine Cd.seq ?_
        refine Cd.region ?_
        refine Seg.step rfl rfl (Yd.move rfl) ?_
        refine Seg.step rfl rfl (Yd.nilCheckP rfl) ?_
        refine Seg.step rfl rfl (Yd.fieldAddr rfl rfl) ?_
        refine Seg.step rfl rfl (Yd.load1 rfl rfl (hB.row _ _ rfl)) ?_
        refine Seg.step rfl rfl (Yd.addI rfl rfl (by omega)) ?_
        refine Seg.step rfl rfl (Yd.nilCheckP rfl) ?_
        refine Seg.step rfl rfl (Yd.fieldAddr rfl rfl) ?_
        refine Seg.store1 rfl rfl rfl rfl rfl hB (by first | omega | (simp; done) | exact Nat.le_of_ble_eq_true rfl) (fun w60 hW60 hB60 => ?_)
        clear hB
        replace hWr := Wr.trans hWr hW60
        refine Seg.nil ?_
        refine At.then_ ?_
        refine Cd.seq ?_
        refine Cd.region ?_
        refine Seg.step rfl rfl (Yd.move rfl) ?_
        refine Seg.step rfl rfl (Yd.convI rfl rfl rfl) ?_
        refine Seg.step rfl rfl (Yd.move rfl) ?_
        refine Seg.step rfl rfl (Yd.convI rfl rfl rfl) ?_
        refine Seg.step rfl rfl (Yd.rem rfl rfl (by omega)) ?_
        refine Seg.step rfl rfl (Yd.convI rfl rfl rfl) ?_
        refine Seg.step rfl rfl (Yd.assign rfl) ?_
        refine Seg.nil ?_
        refine At.then_ ?_
        refine Cd.ret ?_
        exact At.ret Try.results9 (.tmp rfl .nil) ⟨by rw [← hd]; exact draw_close _ hn hn', hWr, by assumption⟩
theorem rdraw_pos (b : Nat) (xs : List Int) (u : Nat) (n : Int) (v : Value) (w : World) (hn : 1 ≤ n) (hn' : n ≤ 9223372036854775807) (hu : u < 4611686018427387904) (hB : Bx w b [v, .int .i64 u]) (hs : Sl w 1 v xs.length (ints xs)) :
    Ret Try.prog 10 #[.pointer (some ⟨b, 0, none⟩), .int .i64 n] w fun r w' => r = .int .i64 (drawVal xs u n) ∧ Wr b w w' ∧ Bx w' b [v, .int .i64 (u + 1)] := by
  have hWr := Ext.wr (Ext.refl w) b
  obtain ⟨ao, c, rfl, hl, hr, hz⟩ := hs
  have hv := drawVal_bd xs u hn
  have hnn := u64_nn (drawn xs u)
  have hn2 := u64_id (n := n) (by omega) hn'
  by_cases hlt : u < xs.length
  · obtain ⟨a, rfl⟩ : ∃ a, ao = some a := by
      cases ao with
      | none => have := hz rfl; omega
      | some a => exact ⟨a, rfl⟩
    have hr := hr a rfl
    have hd : drawn xs u = xs.getD u 0 := by simp [drawn, hlt]
    refine Ret.body Try.func10 rfl Try.ntmps10 rfl ?_
    refine Cd.seq ?_
    refine Cd.region ?_
    refine Seg.step rfl rfl (Yd.assign rfl) ?_
    refine Seg.nil ?_
    refine At.then_ ?_
    refine Cd.seq ?_
    refine Cd.seq ?_
    refine Cd.region ?_
    refine Seg.step rfl rfl (Yd.move rfl) ?_
    refine Seg.step rfl rfl (Yd.lss rfl rfl) ?_
    refine Seg.nil ?_
    refine At.then_ ?_
    refine Cd.condk rfl (fun h15 => ?_) (fun h15 => ?_)
    · exfalso; omega
    · refine Cd.skip ?_
      refine At.then_ ?_
      refine Cd.seq ?_
      refine Cd.region ?_
      refine Seg.step rfl rfl (Yd.move rfl) ?_
      refine Seg.step rfl rfl (Yd.nilCheckP rfl) ?_
      refine Seg.step rfl rfl (Yd.fieldAddr rfl rfl) ?_
      refine Seg.step rfl rfl (Yd.load1 rfl rfl (hB.row _ _ rfl)) ?_
      refine Seg.step rfl rfl (Yd.assign rfl) ?_
      refine Seg.nil ?_
      refine At.then_ ?_
      refine Cd.seq ?_
      refine Cd.seq ?_
      refine Cd.region ?_
      refine Seg.step rfl rfl (Yd.move rfl) ?_
      refine Seg.step rfl rfl (Yd.move rfl) ?_
      refine Seg.step rfl rfl (Yd.nilCheckP rfl) ?_
      refine Seg.step rfl rfl (Yd.fieldAddr rfl rfl) ?_
      refine Seg.step rfl rfl (Yd.load1 rfl rfl (hB.row _ _ rfl)) ?_
      refine Seg.step rfl rfl (Yd.lenS rfl rfl) ?_
      refine Seg.step rfl rfl (Yd.lss rfl rfl) ?_
      refine Seg.nil ?_
      refine At.then_ ?_
      refine Cd.condk rfl (fun h40 => ?_) (fun h40 => ?_)
      · refine Cd.region ?_
        refine Seg.step rfl rfl (Yd.move rfl) ?_
        refine Seg.step rfl rfl (Yd.nilCheckP rfl) ?_
        refine Seg.step rfl rfl (Yd.fieldAddr rfl rfl) ?_
        refine Seg.step rfl rfl (Yd.load1 rfl rfl (hB.row _ _ rfl)) ?_
        refine Seg.step rfl rfl (Yd.move rfl) ?_
        refine Seg.step rfl rfl (Yd.indexAddr1 rfl rfl rfl (NatOf.cast _) (by omega)) ?_
        refine Seg.step rfl rfl (Yd.load1 rfl rfl (hr _ _ (ints_get hlt))) ?_
        refine Seg.step rfl rfl (Yd.assign rfl) ?_
        refine Seg.nil ?_
        refine At.then_ ?_
        refine Cd.seq ?_
        refine Cd.region ?_
        refine Seg.step rfl rfl (Yd.move rfl) ?_
        refine Seg.step rfl rfl (Yd.move rfl) ?_
        refine Seg.step rfl rfl (Yd.nilCheckP rfl) ?_
        refine Seg.step rfl rfl (Yd.fieldAddr rfl rfl) ?_
        refine Seg.step rfl rfl (Yd.load1 rfl rfl (hB.row _ _ rfl)) ?_
        refine Seg.step rfl rfl (Yd.addI rfl rfl (by omega)) ?_
        refine Seg.step rfl rfl (Yd.nilCheckP rfl) ?_
        refine Seg.step rfl rfl (Yd.fieldAddr rfl rfl) ?_
        refine Seg.store1 rfl rfl rfl rfl rfl hB (by first | omega | (simp; done) | exact Nat.le_of_ble_eq_true rfl) (fun w63 hW63 hB63 => ?_)
        clear hB
        replace hWr := Wr.trans hWr hW63
        refine Seg.nil ?_
        refine At.then_ ?_
        refine Cd.seq ?_
        refine Cd.region ?_
        refine Seg.step rfl rfl (Yd.move rfl) ?_
        refine Seg.step rfl rfl (Yd.convI rfl rfl rfl) ?_
        refine Seg.step rfl rfl (Yd.move rfl) ?_
        refine Seg.step rfl rfl (Yd.convI rfl rfl rfl) ?_
        refine Seg.step rfl rfl (Yd.rem rfl rfl (by omega)) ?_
        refine Seg.step rfl rfl (Yd.convI rfl rfl rfl) ?_
        refine Seg.step rfl rfl (Yd.assign rfl) ?_
        refine Seg.nil ?_
        refine At.then_ ?_
        refine Cd.ret ?_
        exact At.ret Try.results10 (.tmp rfl .nil) ⟨by rw [← hd]; exact draw_close _ hn hn', hWr, by assumption⟩
      · exfalso; omega
  · have hd : drawn xs u = u := by simp [drawn, hlt]
    refine Ret.body Try.func10 rfl Try.ntmps10 rfl ?_
    refine Cd.seq ?_
    refine Cd.region ?_
    refine Seg.step rfl rfl (Yd.assign rfl) ?_
    refine Seg.nil ?_
    refine At.then_ ?_
    refine Cd.seq ?_
    refine Cd.seq ?_
    refine Cd.region ?_
    refine Seg.step rfl rfl (Yd.move rfl) ?_
    refine Seg.step rfl rfl (Yd.lss rfl rfl) ?_
    refine Seg.nil ?_
    refine At.then_ ?_
    refine Cd.condk rfl (fun h15 => ?_) (fun h15 => ?_)
    · exfalso; omega
    · refine Cd.skip ?_
      refine At.then_ ?_
      refine Cd.seq ?_
      refine Cd.region ?_
      refine Seg.step rfl rfl (Yd.move rfl) ?_
      refine Seg.step rfl rfl (Yd.nilCheckP rfl) ?_
      refine Seg.step rfl rfl (Yd.fieldAddr rfl rfl) ?_
      refine Seg.step rfl rfl (Yd.load1 rfl rfl (hB.row _ _ rfl)) ?_
      refine Seg.step rfl rfl (Yd.assign rfl) ?_
      refine Seg.nil ?_
      refine At.then_ ?_
      refine Cd.seq ?_
      refine Cd.seq ?_
      refine Cd.region ?_
      refine Seg.step rfl rfl (Yd.move rfl) ?_
      refine Seg.step rfl rfl (Yd.move rfl) ?_
      refine Seg.step rfl rfl (Yd.nilCheckP rfl) ?_
      refine Seg.step rfl rfl (Yd.fieldAddr rfl rfl) ?_
      refine Seg.step rfl rfl (Yd.load1 rfl rfl (hB.row _ _ rfl)) ?_
      refine Seg.step rfl rfl (Yd.lenS rfl rfl) ?_
      refine Seg.step rfl rfl (Yd.lss rfl rfl) ?_
      refine Seg.nil ?_
      refine At.then_ ?_
      refine Cd.condk rfl (fun h40 => ?_) (fun h40 => ?_)
      · exfalso; omega
      · refine Cd.skip ?_
        refine At.then_ ?_
        refine Cd.seq ?_
        refine Cd.region ?_
        refine Seg.step rfl rfl (Yd.move rfl) ?_
        refine Seg.step rfl rfl (Yd.move rfl) ?_
        refine Seg.step rfl rfl (Yd.nilCheckP rfl) ?_
        refine Seg.step rfl rfl (Yd.fieldAddr rfl rfl) ?_
        refine Seg.step rfl rfl (Yd.load1 rfl rfl (hB.row _ _ rfl)) ?_
        refine Seg.step rfl rfl (Yd.addI rfl rfl (by omega)) ?_
        refine Seg.step rfl rfl (Yd.nilCheckP rfl) ?_
        refine Seg.step rfl rfl (Yd.fieldAddr rfl rfl) ?_
        refine Seg.store1 rfl rfl rfl rfl rfl hB (by first | omega | (simp; done) | exact Nat.le_of_ble_eq_true rfl) (fun w54 hW54 hB54 => ?_)
        clear hB
        replace hWr := Wr.trans hWr hW54
        refine Seg.nil ?_
        refine At.then_ ?_
        refine Cd.seq ?_
        refine Cd.region ?_
        refine Seg.step rfl rfl (Yd.move rfl) ?_
        refine Seg.step rfl rfl (Yd.convI rfl rfl rfl) ?_
        refine Seg.step rfl rfl (Yd.move rfl) ?_
        refine Seg.step rfl rfl (Yd.convI rfl rfl rfl) ?_
        refine Seg.step rfl rfl (Yd.rem rfl rfl (by omega)) ?_
        refine Seg.step rfl rfl (Yd.convI rfl rfl rfl) ?_
        refine Seg.step rfl rfl (Yd.assign rfl) ?_
        refine Seg.nil ?_
        refine At.then_ ?_
        refine Cd.ret ?_
        exact At.ret Try.results10 (.tmp rfl .nil) ⟨by rw [← hd]; exact draw_close _ hn hn', hWr, by assumption⟩

theorem rdraw_neg (p : Option Addr) (n : Int) (hn : n < 1) (w : World) : Ret Try.prog 10 #[.pointer p, .int .i64 n] w fun v w' => v = .int .i64 0 ∧ Ext w w' := by
  have hE0 := Ext.refl w
  refine Ret.body Try.func10 rfl Try.ntmps10 rfl ?_
  refine Cd.seq ?_
  refine Cd.region ?_
  refine Seg.step rfl rfl (Yd.assign rfl) ?_
  refine Seg.nil ?_
  refine At.then_ ?_
  refine Cd.seq ?_
  refine Cd.seq ?_
  refine Cd.region ?_
  refine Seg.step rfl rfl (Yd.move rfl) ?_
  refine Seg.step rfl rfl (Yd.lss rfl rfl) ?_
  refine Seg.nil ?_
  refine At.then_ ?_
  refine Cd.condk rfl (fun h13 => ?_) (fun h13 => ?_)
  · refine Cd.seq ?_
    refine Cd.region ?_
    refine Seg.step rfl rfl (Yd.assign rfl) ?_
    refine Seg.nil ?_
    refine At.then_ ?_
    refine Cd.ret ?_
    refine At.then_ret ?_
    exact At.ret Try.results10 (.tmp rfl .nil) ⟨rfl, hE0⟩
  · exfalso; omega
theorem used_nil (w : World) : Ret Try.prog 11 #[.pointer none] w fun v w' => v = .int .i64 0 ∧ Ext w w' := by
  have hE0 := Ext.refl w
  refine Ret.body Try.func11 rfl Try.ntmps11 rfl ?_
  refine Cd.seq ?_
  refine Cd.region ?_
  refine Seg.step rfl rfl (Yd.assign rfl) ?_
  refine Seg.nil ?_
  refine At.then_ ?_
  refine Cd.seq ?_
  refine Cd.seq ?_
  refine Cd.region ?_
  refine Seg.step rfl rfl (Yd.move rfl) ?_
  refine Seg.step rfl rfl (Yd.eqlNilP rfl rfl rfl) ?_
  refine Seg.nil ?_
  refine At.then_ ?_
  refine Cd.condT rfl ?_
  refine Cd.seq ?_
  refine Cd.region ?_
  refine Seg.step rfl rfl (Yd.assign rfl) ?_
  refine Seg.nil ?_
  refine At.then_ ?_
  refine Cd.ret ?_
  refine At.then_ret ?_
  exact At.ret Try.results11 (.tmp rfl .nil) ⟨rfl, hE0⟩
theorem used_any (b : Nat) (u : Int) (v : Value) (w : World) (hB : Bx w b [v, .int .i64 u]) : Ret Try.prog 11 #[.pointer (some ⟨b, 0, none⟩)] w fun r w' => r = .int .i64 u ∧ Ext w w' := by
  have hE0 := Ext.refl w
  refine Ret.body Try.func11 rfl Try.ntmps11 rfl ?_
  refine Cd.seq ?_
  refine Cd.region ?_
  refine Seg.step rfl rfl (Yd.assign rfl) ?_
  refine Seg.nil ?_
  refine At.then_ ?_
  refine Cd.seq ?_
  refine Cd.seq ?_
  refine Cd.region ?_
  refine Seg.step rfl rfl (Yd.move rfl) ?_
  refine Seg.step rfl rfl (Yd.eqlNilP rfl rfl rfl) ?_
  refine Seg.nil ?_
  refine At.then_ ?_
  refine Cd.condF rfl ?_
  refine Cd.skip ?_
  refine At.then_ ?_
  refine Cd.seq ?_
  refine Cd.region ?_
  refine Seg.step rfl rfl (Yd.move rfl) ?_
  refine Seg.step rfl rfl (Yd.nilCheckP rfl) ?_
  refine Seg.step rfl rfl (Yd.fieldAddr rfl rfl) ?_
  refine Seg.step rfl rfl (Yd.load1 rfl rfl (hB.row _ _ rfl)) ?_
  refine Seg.step rfl rfl (Yd.assign rfl) ?_
  refine Seg.nil ?_
  refine At.then_ ?_
  refine Cd.ret ?_
  exact At.ret Try.results11 (.tmp rfl .nil) ⟨rfl, hE0⟩

theorem ints_one (xs : List Int) : ∀ c ∈ ints xs, c.oneCell' = true := by
  intro c hc
  obtain ⟨x, _, rfl⟩ := List.mem_map.1 hc
  rfl
theorem ints_length (xs : List Int) : (ints xs).length = xs.length := by simp [ints]

/-- At block b lies a lot of the draws xs, of which u were drawn; all of it in blocks of F. -/
def LotAt (w : World) (F : Nat → Prop) (b : Nat) (xs : List Int) (u : Nat) : Prop := F b ∧ ∃ v, Bx w b [v, .int .i64 u] ∧ Sl w 1 v xs.length (ints xs) ∧ SlOff b v ∧ ∀ p m c, v = .slice (some p) m c → 0 < m → F p.block
theorem LotAt.ext {w w' : World} {F : Nat → Prop} {b u : Nat} {xs : List Int} (h : LotAt w F b xs u) (hE : Ext w w') : LotAt w' F b xs u := by
  obtain ⟨h0, v, h1, h2, h3, h4⟩ := h
  exact ⟨h0, v, h1.ext hE, h2.ext hE, h3, h4⟩
theorem LotAt.wr {w w' : World} {F : Nat → Prop} {b c u : Nat} {xs : List Int} (h : LotAt w F b xs u) (hg : Wr c w w') (hc : ¬ F c) : LotAt w' F b xs u := by
  obtain ⟨h0, v, h1, h2, h3, h4⟩ := h
  exact ⟨h0, v, h1.wr hg (fun e => hc (e ▸ h0)), h2.wr hg (fun p m k hv hm e => hc (e ▸ h4 p m k hv hm)), h3, h4⟩

theorem lot_pos (F : Nat → Prop) (b : Nat) (xs : List Int) (u : Nat) (n : Int) (w : World) (hn : 1 ≤ n) (hn' : n ≤ 9223372036854775807) (hu : u < 4611686018427387904) (hL : LotAt w F b xs u) :
    Ret Try.prog 9 #[.pointer (some ⟨b, 0, none⟩), .int .i64 n] w fun r w' => r = .int .i64 (drawVal xs u n) ∧ Wr b w w' ∧ LotAt w' F b xs (u + 1) := by
  obtain ⟨h0, v, h1, h2, h3, h4⟩ := hL
  exact (draw_pos b xs u n v w hn hn' hu h1 h2).mono fun r w' ⟨hr, hw, hb⟩ => ⟨hr, hw, h0, v, hb, h2.wr hw h3, h3, h4⟩
theorem rlot_pos (F : Nat → Prop) (b : Nat) (xs : List Int) (u : Nat) (n : Int) (w : World) (hn : 1 ≤ n) (hn' : n ≤ 9223372036854775807) (hu : u < 4611686018427387904) (hL : LotAt w F b xs u) :
    Ret Try.prog 10 #[.pointer (some ⟨b, 0, none⟩), .int .i64 n] w fun r w' => r = .int .i64 (drawVal xs u n) ∧ Wr b w w' ∧ LotAt w' F b xs (u + 1) := by
  obtain ⟨h0, v, h1, h2, h3, h4⟩ := hL
  exact (rdraw_pos b xs u n v w hn hn' hu h1 h2).mono fun r w' ⟨hr, hw, hb⟩ => ⟨hr, hw, h0, v, hb, h2.wr hw h3, h3, h4⟩
theorem lot_used (F : Nat → Prop) (b : Nat) (xs : List Int) (u : Nat) (w : World) (hL : LotAt w F b xs u) : Ret Try.prog 11 #[.pointer (some ⟨b, 0, none⟩)] w fun r w' => r = .int .i64 u ∧ Ext w w' := by
  obtain ⟨h0, v, h1, h2, h3, h4⟩ := hL
  exact used_any b u v w h1
theorem LotAt.cell {w : World} {F : Nat → Prop} {b u : Nat} {xs : List Int} (h : LotAt w F b xs u) : w.cell? (Addr.add ⟨b, 0, none⟩ 1) = some (.int .i64 u) := by
  obtain ⟨_, v, h1, _, _, _⟩ := h
  exact h1.row 1 _ rfl
theorem LotAt.mono {w : World} {F F' : Nat → Prop} {b u : Nat} {xs : List Int} (h : LotAt w F b xs u) (k : ∀ x, F x → F' x) : LotAt w F' b xs u := by
  obtain ⟨h0, v, h1, h2, h3, h4⟩ := h
  exact ⟨k _ h0, v, h1, h2, h3, fun p m c hv hm => k _ (h4 p m c hv hm)⟩
theorem own_ge {w : World} {base e k m : Nat} {v : Value} {cs : List Value} (h : w.ownsRow base e k v m cs) : ∀ p m' c, v = .slice (some p) m' c → base ≤ p.block := by
  intro p m' c hv
  obtain ⟨h1, h2⟩ := h
  rcases h2 with ⟨rfl, rfl⟩ | ⟨g, cap, cur, rfl, hb, _⟩
  · cases hv
  · cases hv; exact hb
/-- A lot of its own: its draws are a copy. -/
theorem new_any (xs : List Int) (v : Value) (w : World) (hs : Sl w 1 v xs.length (ints xs)) (hx : xs.length ≤ 100000000) :
    Ret Try.prog 8 #[v] w fun r w' => ∃ b, r = .pointer (some ⟨b, 0, none⟩) ∧ Ext w w' ∧ w.heap.size ≤ b ∧ LotAt w' (fun x => w.heap.size ≤ x ∧ x < w'.heap.size) b xs 0 := by
  have hE0 := Ext.refl w
  refine Ret.body Try.func8 rfl Try.ntmps8 rfl ?_
  refine Cd.seq ?_
  refine Cd.region ?_
  refine Seg.step rfl rfl (Yd.assign rfl) ?_
  refine Seg.nil ?_
  refine At.then_ ?_
  refine Cd.seq ?_
  refine Cd.region ?_
  refine Seg.step rfl rfl (Yd.move rfl) ?_
  (refine Seg.appendNil rfl rfl rfl rfl rfl rfl rfl rfl rfl hs (ints_one xs) hx rfl (fun v9 w9 hO9 hE9 => ?_); obtain ⟨ao9, c9, rfl⟩ := own_shape hO9; have hS := own_sl hO9; have hlt := hS.lt; have hge := own_ge hO9)
  replace hs := hs.ext hE9
  replace hE0 := Ext.trans hE0 hE9
  refine Seg.step rfl rfl (Yd.build rfl rfl rfl rfl) ?_
  refine Seg.box rfl rfl rfl (fun w11 b11 hE11 hB11 hb11 => ?_)
  have hlt11_0 := Nat.le_trans hE9.size hb11
  have hlt11_1 := Nat.le_trans hE0.size hb11
  replace hE9 := Ext.trans hE9 hE11
  replace hO9 := own_ext hO9 hE11
  replace hS := hS.ext hE11
  replace hs := hs.ext hE11
  replace hE0 := Ext.trans hE0 hE11
  refine Seg.step rfl rfl (Yd.assign rfl) ?_
  refine Seg.nil ?_
  refine At.then_ ?_
  refine Cd.ret ?_
  exact At.ret Try.results8 (.tmp rfl .nil) ⟨_, rfl, hE0, by omega, ⟨by omega, (by assumption : Bx _ _ _).lt⟩, _, by assumption, by assumption, hlt.off (by assumption), fun p m c hv hm => ⟨hge p m c hv, (by assumption : Sl _ _ _ _ _).lt p m c hv hm⟩⟩

theorem works22 (w : World) : Ret Try.prog 7 #[] w fun v w' => v = .bool true ∧ Ext w w' := by
  have hE0 := Ext.refl w
  refine Ret.body (args := []) Try.func7 rfl Try.ntmps7 rfl ?_
  refine Cd.seq ?_
  refine Cd.region ?_
  refine Seg.step rfl rfl (Yd.assign rfl) ?_
  refine Seg.nil ?_
  refine At.then_ ?_
  refine Cd.seq ?_
  refine Cd.region ?_
  refine Seg.buildSlice rfl rfl rfl rfl rfl rfl rfl rfl (fun w8 b8 hE8 hB8 hb8 hO8 => ?_)
  have hlt8_0 := Nat.le_trans hE0.size hb8
  replace hE0 := Ext.trans hE0 hE8
  (refine Seg.call rfl rfl (own_of rfl) rfl (new_any [7, -1] _ _ (own_sl (by assumption)) (by decide)) ?_; rintro _ w9 ⟨b9, rfl, hE9, hb9, hL⟩)
  have hlt9_0 := Nat.le_trans hE8.size hb9
  have hlt9_1 := Nat.lt_of_lt_of_le hB8.lt hb9
  have hlt9_2 := Nat.le_trans hE0.size hb9
  replace hE8 := Ext.trans hE8 hE9
  replace hB8 := hB8.ext hE9
  replace hO8 := own_ext hO8 hE9
  replace hE0 := Ext.trans hE0 hE9
  refine Seg.step rfl rfl (Yd.assign rfl) ?_
  refine Seg.nil ?_
  refine At.then_ ?_
  refine Cd.seq ?_
  refine Cd.region ?_
  refine Seg.step rfl rfl (Yd.move rfl) ?_
  clear hB8 hO8
  (refine Seg.call rfl rfl (own_of rfl) rfl (lot_pos _ _ [7, -1] _ _ _ (by decide) (by decide) (by decide) hL) ?_; rintro _ w10 ⟨rfl, hW10, hL'⟩; clear hL; have hL := hL'; clear hL')
  replace hE9 := Ext.wr' hE9 hW10 (by omega)
  replace hE8 := Ext.wr' hE8 hW10 (by omega)
  replace hE0 := Ext.wr' hE0 hW10 (by omega)
  refine Seg.step rfl rfl (Yd.move rfl) ?_
  (refine Seg.call rfl rfl (own_of rfl) rfl (lot_pos _ _ [7, -1] _ _ _ (by decide) (by decide) (by decide) hL) ?_; rintro _ w12 ⟨rfl, hW12, hL'⟩; clear hL; have hL := hL'; clear hL')
  replace hW10 := Wr.trans hW10 hW12
  replace hE9 := Ext.wr' hE9 hW12 (by omega)
  replace hE8 := Ext.wr' hE8 hW12 (by omega)
  replace hE0 := Ext.wr' hE0 hW12 (by omega)
  refine Seg.step rfl rfl (Yd.move rfl) ?_
  (refine Seg.call rfl rfl (own_of rfl) rfl (lot_pos _ _ [7, -1] _ _ _ (by decide) (by decide) (by decide) hL) ?_; rintro _ w14 ⟨rfl, hW14, hL'⟩; clear hL; have hL := hL'; clear hL')
  replace hW12 := Wr.trans hW12 hW14
  replace hW10 := Wr.trans hW10 hW14
  replace hE9 := Ext.wr' hE9 hW14 (by omega)
  replace hE8 := Ext.wr' hE8 hW14 (by omega)
  replace hE0 := Ext.wr' hE0 hW14 (by omega)
  refine Seg.step rfl rfl (Yd.assign rfl) ?_
  refine Seg.step rfl rfl (Yd.assign rfl) ?_
  refine Seg.step rfl rfl (Yd.assign rfl) ?_
  refine Seg.nil ?_
  refine At.then_ ?_
  refine Cd.seq ?_
  refine Cd.region ?_
  refine Seg.step rfl rfl (Yd.move rfl) ?_
  refine Seg.step rfl rfl (Yd.eql rfl rfl) ?_
  refine Seg.step rfl rfl (Yd.move rfl) ?_
  refine Seg.step rfl rfl (Yd.move rfl) ?_
  refine Seg.step rfl rfl (Yd.eql rfl rfl) ?_
  refine Seg.step rfl rfl (Yd.pickT rfl rfl) ?_
  refine Seg.step rfl rfl (Yd.move rfl) ?_
  refine Seg.step rfl rfl (Yd.move rfl) ?_
  refine Seg.step rfl rfl (Yd.eql rfl rfl) ?_
  refine Seg.step rfl rfl (Yd.pickT rfl rfl) ?_
  refine Seg.step rfl rfl (Yd.move rfl) ?_
  refine Seg.step rfl rfl (Yd.move rfl) ?_
  (refine Seg.call rfl rfl (own_of rfl) rfl (lot_used _ _ [7, -1] _ _ hL) ?_; rintro _ w34 ⟨rfl, hE34⟩)
  replace hW14 := Wr.trans hW14 (Ext.wr hE34 _)
  replace hL := hL.ext hE34
  replace hW12 := Wr.trans hW12 (Ext.wr hE34 _)
  replace hW10 := Wr.trans hW10 (Ext.wr hE34 _)
  replace hE9 := Ext.trans hE9 hE34
  replace hE8 := Ext.trans hE8 hE34
  replace hE0 := Ext.trans hE0 hE34
  refine Seg.step rfl rfl (Yd.eql rfl rfl) ?_
  refine Seg.step rfl rfl (Yd.pickT rfl rfl) ?_
  refine Seg.step rfl rfl (Yd.assign rfl) ?_
  refine Seg.nil ?_
  refine At.then_ ?_
  refine Cd.ret ?_
  exact At.ret Try.results7 (.tmp rfl .nil) ⟨rfl, hE0⟩

set_option maxHeartbeats 2000000 in
theorem law22a (xs ys : List Int) (v0 v1 : Value) (w : World) (h0 : Sl w 1 v0 xs.length (ints xs)) (h1 : Sl w 1 v1 ys.length (ints ys)) (hy : ∀ k, k < ys.length → ys.getD k 0 ≤ 9223372036854775807) :
    Ret Try.prog 3 #[v0, v1] w fun v w' => v = .bool true ∧ Ext w w' := by
  have hE0 := Ext.refl w
  obtain ⟨ao, c, rfl, hl0, hr0, hz0⟩ := h0
  obtain ⟨ao', c', rfl, hl1, hr1, hz1⟩ := h1
  have hs0 : Sl w 1 (.slice ao xs.length c) xs.length (ints xs) := ⟨ao, c, rfl, hl0, hr0, hz0⟩
  have hlt0 := hs0.lt
  refine Ret.body Try.func3 rfl Try.ntmps3 rfl ?_
  refine Cd.seq ?_
  refine Cd.region ?_
  refine Seg.step rfl rfl (Yd.assign rfl) ?_
  refine Seg.nil ?_
  refine At.then_ ?_
  refine Cd.seq ?_
  refine Cd.seq ?_
  refine Cd.region ?_
  (refine Seg.call rfl rfl (own_of rfl) rfl (works22 _) ?_; rintro _ w10 ⟨rfl, hE10⟩)
  replace hE0 := Ext.trans hE0 hE10
  replace hs0 := hs0.ext hE10
  refine Seg.step rfl rfl (Yd.not rfl) ?_
  refine Seg.step rfl rfl (Yd.move rfl) ?_
  refine Seg.step rfl rfl (Yd.move rfl) ?_
  refine Seg.step rfl rfl (Yd.lenS rfl rfl) ?_
  refine Seg.step rfl rfl (Yd.gtr rfl rfl) ?_
  refine Seg.step rfl rfl (Yd.pickF rfl rfl) ?_
  refine Seg.step rfl rfl (Yd.move rfl) ?_
  refine Seg.gsplitp rfl rfl (fun h18 => ?_) (fun h18 => ?_)
  · refine Seg.skip rfl rfl ?_
    refine Seg.skip rfl rfl ?_
    refine Seg.skip rfl rfl ?_
    refine Seg.step rfl rfl (Yd.pickT rfl rfl) ?_
    refine Seg.nil ?_
    refine At.then_ ?_
    refine Cd.condT rfl ?_
    refine Cd.seq ?_
    refine Cd.region ?_
    (refine Seg.call rfl rfl (own_of rfl) rfl (works22 _) ?_; rintro _ w29 ⟨rfl, hE29⟩)
    replace hE10 := Ext.trans hE10 hE29
    replace hE0 := Ext.trans hE0 hE29
    replace hs0 := hs0.ext hE29
    refine Seg.step rfl rfl (Yd.assign rfl) ?_
    refine Seg.nil ?_
    refine At.then_ ?_
    refine Cd.ret ?_
    refine At.then_ret ?_
    exact At.ret Try.results3 (.tmp rfl .nil) ⟨rfl, hE0⟩
  refine Seg.step rfl rfl (Yd.move rfl) ?_
  refine Seg.step rfl rfl (Yd.lenS rfl rfl) ?_
  refine Seg.step rfl rfl (Yd.gtr rfl rfl) ?_
  refine Seg.step rfl rfl (Yd.pickF rfl rfl) ?_
  refine Seg.nil ?_
  refine At.then_ ?_
  refine Cd.condk rfl (fun h43 => ?_) (fun h43 => ?_)
  · refine Cd.seq ?_
    refine Cd.region ?_
    (refine Seg.call rfl rfl (own_of rfl) rfl (works22 _) ?_; rintro _ w47 ⟨rfl, hE47⟩)
    replace hE10 := Ext.trans hE10 hE47
    replace hE0 := Ext.trans hE0 hE47
    replace hs0 := hs0.ext hE47
    refine Seg.step rfl rfl (Yd.assign rfl) ?_
    refine Seg.nil ?_
    refine At.then_ ?_
    refine Cd.ret ?_
    refine At.then_ret ?_
    exact At.ret Try.results3 (.tmp rfl .nil) ⟨rfl, hE0⟩
  refine Cd.skip ?_
  refine At.then_ ?_
  refine Cd.seq ?_
  refine Cd.region ?_
  refine Seg.buildSlice rfl rfl rfl rfl rfl rfl rfl rfl (fun w59 b59 hE59 hB59 hb59 hO59 => ?_)
  have hlt59_0 := Nat.le_trans hE10.size hb59
  have hlt59_1 := Nat.le_trans hE0.size hb59
  replace hE10 := Ext.trans hE10 hE59
  replace hE0 := Ext.trans hE0 hE59
  replace hs0 := hs0.ext hE59
  refine Seg.step rfl rfl (Yd.move rfl) ?_
  (refine Seg.append0 rfl rfl rfl rfl rfl rfl rfl rfl rfl (by assumption) hs0 (ints_one xs) (Below.size (by assumption)) (by omega) rfl (fun v61 w61 hO61 hW61 _ => ?_); obtain ⟨ao61, c61, rfl⟩ := own_shape hO61)
  replace hE59 := Ext.wr' hE59 hW61 (by omega)
  replace hE10 := Ext.wr' hE10 hW61 (by omega)
  replace hE0 := Ext.wr' hE0 hW61 (by omega)
  (refine Seg.call rfl rfl (own_of rfl) rfl (new_any xs _ _ (own_sl (by assumption)) (by omega)) ?_; rintro _ w62 ⟨b62, rfl, hE62, hb62, hL⟩)
  have hlt62_0 := Nat.le_trans hE59.size hb62
  have hlt62_1 := Nat.le_trans hE10.size hb62
  have hlt62_2 := Nat.le_trans hE0.size hb62
  replace hO61 := own_ext hO61 hE62
  replace hE59 := Ext.trans hE59 hE62
  replace hE10 := Ext.trans hE10 hE62
  replace hE0 := Ext.trans hE0 hE62
  refine Seg.step rfl rfl (Yd.assign rfl) ?_
  refine Seg.nil ?_
  refine At.then_ ?_
  refine Cd.seq ?_
  refine Cd.region ?_
  refine Seg.step rfl rfl (Yd.move rfl) ?_
  refine Seg.step rfl rfl (Yd.build rfl rfl rfl rfl) ?_
  refine Seg.box rfl rfl rfl (fun w70 b70 hE70 hB70 hb70 => ?_)
  have hlt70_0 := Nat.le_trans hE62.size hb70
  have hlt70_1 := Nat.le_trans hE59.size hb70
  have hlt70_2 := Nat.le_trans hE10.size hb70
  have hlt70_3 := Nat.le_trans hE0.size hb70
  replace hE62 := Ext.trans hE62 hE70
  replace hL := hL.ext hE70
  replace hO61 := own_ext hO61 hE70
  replace hE59 := Ext.trans hE59 hE70
  replace hE10 := Ext.trans hE10 hE70
  replace hE0 := Ext.trans hE0 hE70
  refine Seg.step rfl rfl (Yd.assign rfl) ?_
  refine Seg.nil ?_
  refine At.then_ ?_
  refine Cd.seq ?_
  refine Cd.region ?_
  refine Seg.step rfl rfl (Yd.assign rfl) ?_
  refine Seg.nil ?_
  refine At.then_ ?_
  refine Cd.seq ?_
  refine Cd.seq ?_
  refine Cd.region ?_
  refine Seg.step rfl rfl (Yd.assign rfl) ?_
  refine Seg.nil ?_
  refine At.then_ ?_
  refine Cd.block ?_
  have hq : LotAt w70 (fun k => k < w.heap.size ∨ k = b70) b70 xs 0 := ⟨.inr rfl, _, hB70, ⟨ao, c, rfl, hl0, fun a ha => (hr0 a ha).ext hE0, hz0⟩, hlt0.off (by omega), fun p m c hv hm => .inl (hlt0 p m c hv hm)⟩
  replace hL := hL.mono (F' := fun x => x < w62.heap.size) (fun _ h => h.2)
  have hK : b62 < w62.heap.size := hL.1
  clear hB70 hE70 hE62 hO61 hE59 hE10 hs0
  refine Cd.loop (σ := Nat × Nat) (fun s => [(0, .slice ao xs.length c), (1, .slice ao' ys.length c'), (4, .bool false), (5, .pointer (some ⟨b62, 0, none⟩)), (6, .pointer (some ⟨b70, 0, none⟩)), (7, .pointer none), (8, .int .i64 s.1)])
    (fun s w' => s.1 ≤ ys.length ∧ s.2 ≤ s.1 ∧ LotAt w' (fun x => x < w62.heap.size) b62 xs s.2 ∧ LotAt w' (fun k => k < w.heap.size ∨ k = b70) b70 xs s.2 ∧ Ext w w') (fun s => ys.length - s.1) (0, 0)
    (.cons rfl (.cons rfl (.cons rfl (.cons rfl (.cons rfl (.cons rfl (.cons rfl (.nil _)))))))) ⟨Nat.zero_le _, Nat.le_refl _, hL, hq, hE0⟩ ?_
  clear hL hq hE0
  rintro ⟨k, u⟩ w0 ⟨hk, hu, hL, hq, hE0⟩
  simp only at hk hu hL hq ⊢
  by_cases hlt : k < ys.length
  · obtain ⟨a', rfl⟩ : ∃ a, ao' = some a := by
      cases ao' with
      | none => have := hz1 rfl; omega
      | some a => exact ⟨a, rfl⟩
    have hr1 := hr1 a' rfl
    have hyk := hy k hlt
    by_cases hn : ys.getD k 0 < 1
    · refine Cd.seq ?_
      refine Cd.seq ?_
      refine Cd.region ?_
      refine Seg.step rfl rfl (Yd.move rfl) ?_
      refine Seg.step rfl rfl (Yd.move rfl) ?_
      refine Seg.step rfl rfl (Yd.lenS rfl rfl) ?_
      refine Seg.step rfl rfl (Yd.lss rfl rfl) ?_
      refine Seg.nil ?_
      refine At.then_ ?_
      refine Cd.condk rfl (fun h80 => ?_) (fun h80 => ?_)
      · refine Cd.skip ?_
        refine At.then_ ?_
        refine Cd.seq ?_
        refine Cd.block ?_
        refine Cd.seq ?_
        refine Cd.region ?_
        refine Seg.step rfl rfl (Yd.move rfl) ?_
        refine Seg.step rfl rfl (Yd.move rfl) ?_
        refine Seg.step rfl rfl (Yd.move rfl) ?_
        refine Seg.step rfl rfl (Yd.indexAddr1 rfl rfl rfl (NatOf.cast _) (by omega)) ?_
        refine Seg.step rfl rfl (Yd.load1 rfl rfl ((hr1.ext hE0) _ _ (ints_get hlt))) ?_
        (refine Seg.call rfl rfl (own_of rfl) rfl (draw_neg _ _ hn _) ?_; rintro _ w93 ⟨rfl, hE93⟩)
        replace hL := hL.ext hE93
        replace hq := hq.ext hE93
        replace hE0 := Ext.trans hE0 hE93
        refine Seg.step rfl rfl (Yd.assign rfl) ?_
        refine Seg.nil ?_
        refine At.then_ ?_
        refine Cd.seq ?_
        refine Cd.quiet (by kernel_rfl) (by kernel_rfl) ?_
        refine SegQ.step rfl rfl (fun w' hw' => Yd.move rfl) ?_
        refine SegQ.step rfl rfl (fun w' hw' => Yd.move rfl) ?_
        refine SegQ.step rfl rfl (fun w' hw' => Yd.move rfl) ?_
        refine SegQ.step rfl rfl (fun w' hw' => Yd.move rfl) ?_
        refine SegQ.step rfl rfl (fun w' hw' => Yd.indexAddr1 rfl rfl rfl (NatOf.cast _) (by omega)) ?_
        refine SegQ.step rfl rfl (fun w' hw' => Yd.load1 rfl rfl ((hr1.ext (hE0.trans hw')) _ _ (ints_get hlt))) ?_
        refine SegQ.call rfl rfl (own_of rfl) rfl (fun w' hw' => (rdraw_neg _ _ hn w').mono fun v w2 ⟨hv, h2⟩ => ⟨hv, hw'.trans h2⟩) ?_
        refine SegQ.step rfl rfl (fun w' hw' => Yd.neq rfl rfl) ?_
        refine SegQ.step rfl rfl (fun w' hw' => Yd.move rfl) ?_
        refine SegQ.step rfl rfl (fun w' hw' => Yd.move rfl) ?_
        refine SegQ.call rfl rfl (own_of rfl) rfl (fun w' hw' => (lot_used _ _ xs u w' (hL.ext hw')).mono fun v w2 ⟨hv, h2⟩ => ⟨hv, hw'.trans h2⟩) ?_
        refine SegQ.step rfl rfl (fun w' hw' => Yd.move rfl) ?_
        refine SegQ.step rfl rfl (fun w' hw' => Yd.nilCheckP rfl) ?_
        refine SegQ.step rfl rfl (fun w' hw' => Yd.fieldAddr rfl rfl) ?_
        refine SegQ.step rfl rfl (fun w' hw' => Yd.load1 rfl rfl (hq.ext hw').cell) ?_
        refine SegQ.step rfl rfl (fun w' hw' => Yd.neq rfl rfl) ?_
        refine SegQ.step rfl rfl (fun w' hw' => Yd.pickF rfl rfl) ?_
        refine SegQ.step rfl rfl (fun w' hw' => Yd.move rfl) ?_
        refine SegQ.gsplitp rfl rfl (fun h117 => ?_) (fun h117 => ?_)
        · exfalso; omega
        · refine SegQ.step rfl rfl (fun w' hw' => Yd.move rfl) ?_
          refine SegQ.step rfl rfl (fun w' hw' => Yd.lss rfl rfl) ?_
          refine SegQ.step rfl rfl (fun w' hw' => Yd.pickF rfl rfl) ?_
          refine SegQ.step rfl rfl (fun w' hw' => Yd.move rfl) ?_
          refine SegQ.step rfl rfl (fun w' hw' => Yd.move rfl) ?_
          refine SegQ.step rfl rfl (fun w' hw' => Yd.gtr rfl rfl) ?_
          refine SegQ.step rfl rfl (fun w' hw' => Yd.move rfl) ?_
          refine SegQ.skip rfl rfl ?_
          refine SegQ.skip rfl rfl ?_
          refine SegQ.skip rfl rfl ?_
          refine SegQ.skip rfl rfl ?_
          refine SegQ.skip rfl rfl ?_
          refine SegQ.skip rfl rfl ?_
          refine SegQ.step rfl rfl (fun w' hw' => Yd.pickF rfl rfl) ?_
          refine SegQ.step rfl rfl (fun w' hw' => Yd.pickF rfl rfl) ?_
          refine SegQ.step rfl rfl (fun w' hw' => Yd.move rfl) ?_
          refine SegQ.step rfl rfl (fun w' hw' => Yd.move rfl) ?_
          refine SegQ.step rfl rfl (fun w' hw' => Yd.move rfl) ?_
          refine SegQ.step rfl rfl (fun w' hw' => Yd.move rfl) ?_
          refine SegQ.step rfl rfl (fun w' hw' => Yd.indexAddr1 rfl rfl rfl (NatOf.cast _) (by omega)) ?_
          refine SegQ.step rfl rfl (fun w' hw' => Yd.load1 rfl rfl ((hr1.ext (hE0.trans hw')) _ _ (ints_get hlt))) ?_
          refine SegQ.call rfl rfl (own_of rfl) rfl (fun w' hw' => (draw_nil _ w').mono fun v w2 ⟨hv, h2⟩ => ⟨hv, hw'.trans h2⟩) ?_
          refine SegQ.step rfl rfl (fun w' hw' => Yd.neq rfl rfl) ?_
          refine SegQ.step rfl rfl (fun w' hw' => Yd.pickF rfl rfl) ?_
          refine SegQ.nil fun w143 hE143 => ?_
          replace hE93 := Ext.trans hE93 hE143
          replace hL := hL.ext hE143
          replace hq := hq.ext hE143
          replace hE0 := Ext.trans hE0 hE143
          refine At.then_ ?_
          refine Cd.condF rfl ?_
          refine Cd.skip ?_
          refine At.blk ?_
          refine At.then_ ?_
          refine Cd.region ?_
          refine Seg.step rfl rfl (Yd.move rfl) ?_
          refine Seg.step rfl rfl (Yd.addI rfl rfl (by omega)) ?_
          refine Seg.step rfl rfl (Yd.assign rfl) ?_
          refine Seg.nil ?_
          exact At.round (k + 1, u) (.cons rfl (.cons rfl (.cons rfl (.cons rfl (.cons rfl (.cons rfl (.cons rfl (.nil _)))))))) ⟨by omega, by omega, hL, hq, hE0⟩ (by show _ - _ < _ - _; omega)
      · exfalso; omega
    · have hbd := drawVal_bd xs u (n := ys.getD k 0) (by omega)
      refine Cd.seq ?_
      refine Cd.seq ?_
      refine Cd.region ?_
      refine Seg.step rfl rfl (Yd.move rfl) ?_
      refine Seg.step rfl rfl (Yd.move rfl) ?_
      refine Seg.step rfl rfl (Yd.lenS rfl rfl) ?_
      refine Seg.step rfl rfl (Yd.lss rfl rfl) ?_
      refine Seg.nil ?_
      refine At.then_ ?_
      refine Cd.condk rfl (fun h80 => ?_) (fun h80 => ?_)
      rotate_left 1
      · exfalso; omega
      rotate_right 1
      refine Cd.skip ?_
      refine At.then_ ?_
      refine Cd.seq ?_
      refine Cd.block ?_
      refine Cd.seq ?_
      refine Cd.region ?_
      refine Seg.step rfl rfl (Yd.move rfl) ?_
      refine Seg.step rfl rfl (Yd.move rfl) ?_
      refine Seg.step rfl rfl (Yd.move rfl) ?_
      refine Seg.step rfl rfl (Yd.indexAddr1 rfl rfl rfl (NatOf.cast _) (by omega)) ?_
      refine Seg.step rfl rfl (Yd.load1 rfl rfl ((hr1.ext hE0) _ _ (ints_get hlt))) ?_
      (refine Seg.call rfl rfl (own_of rfl) rfl (lot_pos _ _ xs u _ _ (by omega) hyk (by omega) hL) ?_; rintro _ w93 ⟨rfl, hW93, hL'⟩; clear hL; have hL := hL'; clear hL')
      replace hq := hq.wr hW93 (by omega)
      replace hE0 := Ext.wr' hE0 hW93 (by omega)
      refine Seg.step rfl rfl (Yd.assign rfl) ?_
      refine Seg.nil ?_
      refine At.then_ ?_
      refine Cd.seq ?_
      refine Cd.any (by kernel_rfl) ?_
      refine SegA.pure 0 rfl (by kernel_rfl) (by kernel_rfl) (by kernel_rfl) rfl rfl (fun _ => Yd.move rfl) ?_
      refine SegA.pure 1 rfl (by kernel_rfl) (by kernel_rfl) (by kernel_rfl) rfl rfl (fun _ => Yd.move rfl) ?_
      refine SegA.pure 2 rfl (by kernel_rfl) (by kernel_rfl) (by kernel_rfl) rfl rfl (fun _ => Yd.move rfl) ?_
      refine SegA.pure 3 rfl (by kernel_rfl) (by kernel_rfl) (by kernel_rfl) rfl rfl (fun _ => Yd.move rfl) ?_
      refine SegA.pure 4 rfl (by kernel_rfl) (by kernel_rfl) (by kernel_rfl) rfl rfl (fun _ => Yd.indexAddr1 rfl rfl rfl (NatOf.cast _) (by omega)) ?_
      have hE0 := hE0.trans (Ext.drew _)
      have hL := hL.ext (Ext.drew _)
      have hq := hq.ext (Ext.drew _)
      refine SegA.one 5 rfl (by kernel_rfl) rfl rfl (Yd.load1 rfl rfl ((hr1.ext hE0) _ _ (ints_get hlt))) ?_
      refine SegA.oneCall 6 rfl (by kernel_rfl) rfl rfl (own_of rfl) rfl (rlot_pos _ _ xs u _ _ (by omega) hyk (by omega) hq) ?_
      rintro _ w200 ⟨rfl, hW200, hq'⟩
      have hL := hL.wr hW200 (by omega)
      have hE0 := hE0.wr' hW200 (by omega)
      clear hq
      have hq := hq'
      clear hq'
      refine SegA.quiet (Ext w200) 7 rfl (by kernel_rfl) (by kernel_rfl) (Ext.refl _) ?_
      refine SegQ.step rfl rfl (fun w' hw' => Yd.neq rfl rfl) ?_
      refine SegQ.step rfl rfl (fun w' hw' => Yd.move rfl) ?_
      refine SegQ.gsplitp rfl rfl (fun h203 => ?_) (fun h203 => ?_)
      · exfalso; omega
      · refine SegQ.step rfl rfl (fun w' hw' => Yd.move rfl) ?_
        refine SegQ.call rfl rfl (own_of rfl) rfl (fun w' hw' => (lot_used _ _ xs (u + 1) w' (hL.ext hw')).mono fun v w2 ⟨hv, h2⟩ => ⟨hv, hw'.trans h2⟩) ?_
        refine SegQ.step rfl rfl (fun w' hw' => Yd.move rfl) ?_
        refine SegQ.step rfl rfl (fun w' hw' => Yd.nilCheckP rfl) ?_
        refine SegQ.step rfl rfl (fun w' hw' => Yd.fieldAddr rfl rfl) ?_
        refine SegQ.step rfl rfl (fun w' hw' => Yd.load1 rfl rfl (hq.ext hw').cell) ?_
        refine SegQ.step rfl rfl (fun w' hw' => Yd.neq rfl rfl) ?_
        refine SegQ.step rfl rfl (fun w' hw' => Yd.pickF rfl rfl) ?_
        refine SegQ.step rfl rfl (fun w' hw' => Yd.move rfl) ?_
        refine SegQ.gsplitp rfl rfl (fun h214 => ?_) (fun h214 => ?_)
        · exfalso; omega
        · refine SegQ.step rfl rfl (fun w' hw' => Yd.move rfl) ?_
          refine SegQ.step rfl rfl (fun w' hw' => Yd.lss rfl rfl) ?_
          refine SegQ.step rfl rfl (fun w' hw' => Yd.pickF rfl rfl) ?_
          refine SegQ.step rfl rfl (fun w' hw' => Yd.move rfl) ?_
          refine SegQ.gsplitp rfl rfl (fun h220 => ?_) (fun h220 => ?_)
          · exfalso; omega
          · refine SegQ.step rfl rfl (fun w' hw' => Yd.move rfl) ?_
            refine SegQ.step rfl rfl (fun w' hw' => Yd.gtr rfl rfl) ?_
            refine SegQ.step rfl rfl (fun w' hw' => Yd.move rfl) ?_
            refine SegQ.gsplitp rfl rfl (fun h225 => ?_) (fun h225 => ?_)
            · refine SegQ.step rfl rfl (fun w' hw' => Yd.move rfl) ?_
              refine SegQ.step rfl rfl (fun w' hw' => Yd.move rfl) ?_
              refine SegQ.step rfl rfl (fun w' hw' => Yd.move rfl) ?_
              refine SegQ.step rfl rfl (fun w' hw' => Yd.indexAddr1 rfl rfl rfl (NatOf.cast _) (by omega)) ?_
              refine SegQ.step rfl rfl (fun w' hw' => Yd.load1 rfl rfl ((hr1.ext (hE0.trans hw')) _ _ (ints_get hlt))) ?_
              refine SegQ.step rfl rfl (fun w' hw' => Yd.geq rfl rfl) ?_
              refine SegQ.step rfl rfl (fun w' hw' => Yd.pickT rfl rfl) ?_
              refine SegQ.step rfl rfl (fun w' hw' => Yd.pickF rfl rfl) ?_
              refine SegQ.step rfl rfl (fun w' hw' => Yd.move rfl) ?_
              refine SegQ.gsplitp rfl rfl (fun h236 => ?_) (fun h236 => ?_)
              · exfalso; omega
              · refine SegQ.step rfl rfl (fun w' hw' => Yd.move rfl) ?_
                refine SegQ.step rfl rfl (fun w' hw' => Yd.move rfl) ?_
                refine SegQ.step rfl rfl (fun w' hw' => Yd.move rfl) ?_
                refine SegQ.step rfl rfl (fun w' hw' => Yd.indexAddr1 rfl rfl rfl (NatOf.cast _) (by omega)) ?_
                refine SegQ.step rfl rfl (fun w' hw' => Yd.load1 rfl rfl ((hr1.ext (hE0.trans hw')) _ _ (ints_get hlt))) ?_
                refine SegQ.call rfl rfl (own_of rfl) rfl (fun w' hw' => (draw_nil _ w').mono fun v w2 ⟨hv, h2⟩ => ⟨hv, hw'.trans h2⟩) ?_
                refine SegQ.step rfl rfl (fun w' hw' => Yd.neq rfl rfl) ?_
                refine SegQ.step rfl rfl (fun w' hw' => Yd.pickF rfl rfl) ?_
                refine SegQ.nil fun w246 hE246 => ?_
                replace hW200 := Wr.trans hW200 (Ext.wr hE246 _)
                replace hL := hL.ext hE246
                replace hE0 := Ext.trans hE0 hE246
                replace hq := hq.ext hE246
                refine At.then_ ?_
                refine Cd.condF rfl ?_
                refine Cd.skip ?_
                refine At.blk ?_
                refine At.then_ ?_
                refine Cd.region ?_
                refine Seg.step rfl rfl (Yd.move rfl) ?_
                refine Seg.step rfl rfl (Yd.addI rfl rfl (by omega)) ?_
                refine Seg.step rfl rfl (Yd.assign rfl) ?_
                refine Seg.nil ?_
                exact At.round (k + 1, u + 1) (.cons rfl (.cons rfl (.cons rfl (.cons rfl (.cons rfl (.cons rfl (.cons rfl (.nil _)))))))) ⟨by omega, by omega, hL, hq, hE0⟩ (by show _ - _ < _ - _; omega)
            · refine SegQ.skip rfl rfl ?_
              refine SegQ.skip rfl rfl ?_
              refine SegQ.skip rfl rfl ?_
              refine SegQ.skip rfl rfl ?_
              refine SegQ.skip rfl rfl ?_
              refine SegQ.skip rfl rfl ?_
              refine SegQ.step rfl rfl (fun w' hw' => Yd.pickF rfl rfl) ?_
              refine SegQ.step rfl rfl (fun w' hw' => Yd.pickF rfl rfl) ?_
              refine SegQ.step rfl rfl (fun w' hw' => Yd.move rfl) ?_
              refine SegQ.step rfl rfl (fun w' hw' => Yd.move rfl) ?_
              refine SegQ.step rfl rfl (fun w' hw' => Yd.move rfl) ?_
              refine SegQ.step rfl rfl (fun w' hw' => Yd.move rfl) ?_
              refine SegQ.step rfl rfl (fun w' hw' => Yd.indexAddr1 rfl rfl rfl (NatOf.cast _) (by omega)) ?_
              refine SegQ.step rfl rfl (fun w' hw' => Yd.load1 rfl rfl ((hr1.ext (hE0.trans hw')) _ _ (ints_get hlt))) ?_
              refine SegQ.call rfl rfl (own_of rfl) rfl (fun w' hw' => (draw_nil _ w').mono fun v w2 ⟨hv, h2⟩ => ⟨hv, hw'.trans h2⟩) ?_
              refine SegQ.step rfl rfl (fun w' hw' => Yd.neq rfl rfl) ?_
              refine SegQ.step rfl rfl (fun w' hw' => Yd.pickF rfl rfl) ?_
              refine SegQ.nil fun w276 hE276 => ?_
              replace hW200 := Wr.trans hW200 (Ext.wr hE276 _)
              replace hL := hL.ext hE276
              replace hE0 := Ext.trans hE0 hE276
              replace hq := hq.ext hE276
              refine At.then_ ?_
              refine Cd.condF rfl ?_
              refine Cd.skip ?_
              refine At.blk ?_
              refine At.then_ ?_
              refine Cd.region ?_
              refine Seg.step rfl rfl (Yd.move rfl) ?_
              refine Seg.step rfl rfl (Yd.addI rfl rfl (by omega)) ?_
              refine Seg.step rfl rfl (Yd.assign rfl) ?_
              refine Seg.nil ?_
              exact At.round (k + 1, u + 1) (.cons rfl (.cons rfl (.cons rfl (.cons rfl (.cons rfl (.cons rfl (.cons rfl (.nil _)))))))) ⟨by omega, by omega, hL, hq, hE0⟩ (by show _ - _ < _ - _; omega)
  · refine Cd.seq ?_
    refine Cd.seq ?_
    refine Cd.region ?_
    refine Seg.step rfl rfl (Yd.move rfl) ?_
    refine Seg.step rfl rfl (Yd.move rfl) ?_
    refine Seg.step rfl rfl (Yd.lenS rfl rfl) ?_
    refine Seg.step rfl rfl (Yd.lss rfl rfl) ?_
    refine Seg.nil ?_
    refine At.then_ ?_
    refine Cd.condk rfl (fun h80 => ?_) (fun h80 => ?_)
    · exfalso; omega
    · refine Cd.exit ?_
      refine At.then_exit ?_
      refine At.then_exit ?_
      refine At.blk_same ?_
      refine At.then_ ?_
      refine Cd.seq ?_
      refine Cd.region ?_
      refine Seg.step rfl rfl (Yd.move rfl) ?_
      (refine Seg.call rfl rfl (own_of rfl) rfl (used_nil _) ?_; rintro _ w90 ⟨rfl, hE90⟩)
      replace hL := hL.ext hE90
      replace hq := hq.ext hE90
      replace hE0 := Ext.trans hE0 hE90
      refine Seg.step rfl rfl (Yd.eql rfl rfl) ?_
      refine Seg.step rfl rfl (Yd.assign rfl) ?_
      refine Seg.nil ?_
      refine At.then_ ?_
      refine Cd.ret ?_
      exact At.ret Try.results3 (.tmp rfl .nil) ⟨rfl, hE0⟩
end Go.Proofs.Ytccppgpedlfjdaa
