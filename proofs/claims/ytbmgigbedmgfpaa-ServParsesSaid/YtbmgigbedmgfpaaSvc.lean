/- What one line says of a service: the walk. -/
import Derived.Test.YtbmgigbedmgfpaaNum
import Derived.Test.YtbmgigbedmgfpaaWkq
namespace Go.Proofs.Ytbmgigbedmgfpaa
open Go Go.RowKit
/-- A service: its names, its port, its protocol. -/
structure Svc where
  names : List (List UInt8)
  port : Int
  proto : Int
def protoB (r : List UInt8) : Int := if lowS r = [116, 99, 112] then 6 else if lowS r = [117, 100, 112] then 17 else 0
/-- What the fields of one line say. -/
def svcB (fs : List (List UInt8)) : Option Svc :=
  if fs.length < 2 then none else
  if (cutB 47 (fs.getD 1 [])).2.2 = false then none else
  if (numB (cutB 47 (fs.getD 1 [])).1 65535).2 ≠ 0 then none else
  if protoB (cutB 47 (fs.getD 1 [])).2.1 = 0 then none else
  some ⟨fs.getD 0 [] :: fs.drop 2, (numB (cutB 47 (fs.getD 1 [])).1 65535).1, protoB (cutB 47 (fs.getD 1 [])).2.1⟩
/-- The results of 'service'. -/
def svcR (v : Value) (o : Option Svc) : Value := match o with
  | none => .tuple #[.agg #[.slice none 0 0, .int .i64 0, .int .i64 0], .bool false]
  | some s => .tuple #[.agg #[v, .int .i64 s.port, .int .i64 s.proto], .bool true]
theorem drop_cut (fs : List (List UInt8)) : (((strV fs).drop (2 * 1)).take ((fs.length - 2) * 1)) = strV (fs.drop 2) := by
  rw [List.take_of_length_le (by rw [List.length_drop, strV_length]; omega)]
  simp [strV]
theorem above_at {v v' : Value} {w : World} {lo : Nat} (h : v'.ownBlock = v.ownBlock ∨ v'.ownBlock = some w.heap.size) (h1 : ∀ k, v.ownBlock = some k → lo ≤ k) (h2 : lo ≤ w.heap.size) : Above lo v' := fun p m c hv => by
  subst hv
  rcases h with h | h
  · exact h1 _ h.symm
  · have e : p.block = w.heap.size := Option.some.inj h
    omega
theorem names_row {w : World} {base e : Nat} {v : Value} {fs : List (List UInt8)} (h1 : ¬ fs.length < 2) (h : w.ownsRow base e (0 + 1) v (1 + (fs.length - 2)) ([.string ⟨(fs.getD 0 []).toArray⟩] ++ strV (fs.drop 2))) : w.ownsRow base e 1 v (fs.getD 0 [] :: fs.drop 2).length (strV (fs.getD 0 [] :: fs.drop 2)) := by
  have e1 : (fs.getD 0 [] :: fs.drop 2).length = 1 + (fs.length - 2) := by simp; omega
  rw [e1]; exact h
theorem service_any (fs : List (List UInt8)) (v : Value) (w : World) (h : NameAt w v fs) (hc : ∀ a m c, v = .slice a m c → m ≤ c) (hl : fs.length ≤ 1000000) (hs : ∀ l ∈ fs, l.length ≤ 1000000) :
    Ret Try.prog 25 #[v] w fun r w' => (∃ u, r = svcR u (svcB fs) ∧ ∀ s, svcB fs = some s → NameAt w' u s.names ∧ AbC w.heap.size u) ∧ Ext w w' := by
  have hE0 := Ext.refl w
  have hk : Keep (NameAt w v fs) := h
  obtain ⟨ao, c, rfl, hl0, hr0, hz0⟩ := h
  refine Ret.body Try.func25 rfl Try.ntmps25 rfl ?_
  by_cases h1 : fs.length < 2
  · have hN : svcB fs = none := by unfold svcB; rw [if_pos h1]
    rw [hN]
    refine Cd.seq ?_
    refine Cd.region ?_
    refine Seg.alloc rfl rfl rfl (fun w4 b4 hE4 hB4 hb4 => ?_)
    have hlt4_0 := Nat.le_trans hE0.size hb4
    replace hE0 := Ext.trans hE0 hE4
    refine Seg.step rfl rfl (Yd.assign rfl) ?_
    refine Seg.nil ?_
    refine At.then_ ?_
    refine Cd.seq ?_
    refine Cd.seq ?_
    refine Cd.region ?_
    refine Seg.step rfl rfl (Yd.move rfl) ?_
    refine Seg.step rfl rfl (Yd.lenS rfl rfl) ?_
    refine Seg.step rfl rfl (Yd.lss rfl rfl) ?_
    refine Seg.nil ?_
    refine At.then_ ?_
    refine Cd.condk rfl (fun h16 => ?_) (fun h16 => ?_)
    · refine Cd.seq ?_
      refine Cd.region ?_
      refine Seg.step rfl rfl (Yd.buildT (cs := _ :: _ :: _ :: []) 3 rfl rfl rfl rfl rfl) ?_
      refine Seg.storeN rfl rfl rfl rfl hB4 rfl (by first | assumption | exact List.all_eq_true.1 rfl) (fun w21 hW21 hB21 => ?_)
      clear hB4
      replace hE4 := Ext.wr' hE4 hW21 (by omega)
      replace hE0 := Ext.wr' hE0 hW21 (by omega)
      refine Seg.step rfl rfl (Yd.assign rfl) ?_
      refine Seg.nil ?_
      refine At.then_ ?_
      refine Cd.ret ?_
      refine At.then_ret ?_
      exact At.ret Try.results25 (.cell rfl (run_loadVarN rfl rfl (Bx.row (by assumption : Bx _ b4 [.slice none 0 0, .int .i64 0, .int .i64 0]))) (.tmp rfl .nil)) ⟨⟨.nilFunc, rfl, fun s h => by cases h⟩, by assumption⟩
    · exfalso; omega
  · obtain ⟨d, rfl⟩ : ∃ d, ao = some d := by
      cases ao with
      | none => have := hz0 rfl; omega
      | some d => exact ⟨d, rfl⟩
    have hr := hr0 d rfl
    have hx0 : (strV fs)[0]? = some (.string ⟨(fs.getD 0 []).toArray⟩) := strV_get (by omega)
    have hx1 : (strV fs)[1]? = some (.string ⟨(fs.getD 1 []).toArray⟩) := strV_get (by omega)
    have hm1 : (fs.getD 1 []).length ≤ 1000000 := hs _ (by
      have : fs.getD 1 [] = fs[1] := by simp [List.getD, show 1 < fs.length by omega]
      rw [this]; exact List.getElem_mem _)
    have hc1 := cutB_len 47 (fs.getD 1 [])
    have hcut := cut_any (fs.getD 1 []) 47
    have hdef : svcB fs = if (cutB 47 (fs.getD 1 [])).2.2 = false then none else if (numB (cutB 47 (fs.getD 1 [])).1 65535).2 ≠ 0 then none else if protoB (cutB 47 (fs.getD 1 [])).2.1 = 0 then none else
      some ⟨fs.getD 0 [] :: fs.drop 2, (numB (cutB 47 (fs.getD 1 [])).1 65535).1, protoB (cutB 47 (fs.getD 1 [])).2.1⟩ := by conv => lhs; unfold svcB; rw [if_neg h1]
    generalize cutB 47 (fs.getD 1 []) = q at hc1 hcut hdef
    obtain ⟨left, right, ok⟩ := q
    simp only at hc1 hcut hdef
    have hnum := number_any left 65535
    have hlow := lower_any right
    generalize numB left 65535 = nn at hdef hnum
    obtain ⟨port, err⟩ := nn
    simp only at hdef hnum
    have hbx0 : Keep (∀ (w : World) (b : Nat), Bx w b (#[Value.slice none 0 0, .int .i64 0, .int .i64 0] : Array Value).toList → Bx w b [.slice none 0 0, .int .i64 0, .int .i64 0]) := fun _ _ h => h
    cases ok with
    | false =>
      have hN : svcB fs = none := by rw [hdef, if_pos rfl]
      rw [hN]
      refine Cd.seq ?_
      refine Cd.region ?_
      refine Seg.alloc rfl rfl rfl (fun w4 b4 hE4 hB4 hb4 => ?_)
      have hlt4_0 := Nat.le_trans hE0.size hb4
      replace hE0 := Ext.trans hE0 hE4
      replace hr := hr.ext hE4
      refine Seg.step rfl rfl (Yd.assign rfl) ?_
      refine Seg.nil ?_
      refine At.then_ ?_
      refine Cd.seq ?_
      refine Cd.seq ?_
      refine Cd.region ?_
      refine Seg.step rfl rfl (Yd.move rfl) ?_
      refine Seg.step rfl rfl (Yd.lenS rfl rfl) ?_
      refine Seg.step rfl rfl (Yd.lss rfl rfl) ?_
      refine Seg.nil ?_
      refine At.then_ ?_
      refine Cd.condk rfl (fun h16 => ?_) (fun h16 => ?_)
      · exfalso; omega
      · refine Cd.skip ?_
        refine At.then_ ?_
        refine Cd.seq ?_
        refine Cd.region ?_
        refine Seg.step rfl rfl (Yd.move rfl) ?_
        refine Seg.step rfl rfl (Yd.indexAddr1 rfl rfl rfl (NatOf.cast 1) (by omega)) ?_
        refine Seg.step rfl rfl (Yd.load1 rfl rfl (hr _ _ hx1)) ?_
        (refine Seg.call rfl rfl (own_of rfl) rfl (hcut _ hm1) ?_; rintro _ w25 ⟨rfl, hE25⟩)
        replace hE4 := Ext.trans hE4 hE25
        replace hB4 := hB4.ext hE25
        replace hE0 := Ext.trans hE0 hE25
        replace hr := hr.ext hE25
        refine Seg.step rfl rfl (Yd.move rfl) ?_
        refine Seg.step rfl rfl (Yd.extract rfl rfl) ?_
        refine Seg.step rfl rfl (Yd.extract rfl rfl) ?_
        refine Seg.step rfl rfl (Yd.extract rfl rfl) ?_
        refine Seg.step rfl rfl (Yd.assign rfl) ?_
        refine Seg.step rfl rfl (Yd.assign rfl) ?_
        refine Seg.step rfl rfl (Yd.assign rfl) ?_
        refine Seg.nil ?_
        refine At.then_ ?_
        refine Cd.seq ?_
        refine Cd.seq ?_
        refine Cd.region ?_
        refine Seg.step rfl rfl (Yd.move rfl) ?_
        refine Seg.step rfl rfl (Yd.not rfl) ?_
        refine Seg.nil ?_
        refine At.then_ ?_
        refine Cd.condT rfl ?_
        refine Cd.seq ?_
        refine Cd.region ?_
        refine Seg.step rfl rfl (Yd.buildT (cs := _ :: _ :: _ :: []) 3 rfl rfl rfl rfl rfl) ?_
        refine Seg.storeN rfl rfl rfl rfl hB4 rfl (by first | assumption | exact List.all_eq_true.1 rfl) (fun w46 hW46 hB46 => ?_)
        clear hB4
        replace hE4 := Ext.wr' hE4 hW46 (by omega)
        replace hE0 := Ext.wr' hE0 hW46 (by omega)
        refine Seg.step rfl rfl (Yd.assign rfl) ?_
        refine Seg.nil ?_
        refine At.then_ ?_
        refine Cd.ret ?_
        refine At.then_ret ?_
        exact At.ret Try.results25 (.cell rfl (run_loadVarN rfl rfl (Bx.row (by assumption : Bx _ b4 [.slice none 0 0, .int .i64 0, .int .i64 0]))) (.tmp rfl .nil)) ⟨⟨.nilFunc, rfl, fun s h => by cases h⟩, by assumption⟩
    | true =>
      rw [if_neg (by simp)] at hdef
      by_cases he : err = 0
      · subst he
        rw [if_neg (by simp)] at hdef
        by_cases hp : protoB right = 0
        · rw [if_pos hp] at hdef
          rw [hdef]
          unfold protoB at hp
          have ht : ¬ lowS right = [116, 99, 112] := fun h => by rw [if_pos h] at hp; cases hp
          rw [if_neg ht] at hp
          have hu : ¬ lowS right = [117, 100, 112] := fun h => by rw [if_pos h] at hp; cases hp
          refine Cd.seq ?_
          refine Cd.region ?_
          refine Seg.alloc rfl rfl rfl (fun w4 b4 hE4 hB4 hb4 => ?_)
          have hlt4_0 := Nat.le_trans hE0.size hb4
          replace hE0 := Ext.trans hE0 hE4
          replace hr := hr.ext hE4
          refine Seg.step rfl rfl (Yd.assign rfl) ?_
          refine Seg.nil ?_
          refine At.then_ ?_
          refine Cd.seq ?_
          refine Cd.seq ?_
          refine Cd.region ?_
          refine Seg.step rfl rfl (Yd.move rfl) ?_
          refine Seg.step rfl rfl (Yd.lenS rfl rfl) ?_
          refine Seg.step rfl rfl (Yd.lss rfl rfl) ?_
          refine Seg.nil ?_
          refine At.then_ ?_
          refine Cd.condk rfl (fun h16 => ?_) (fun h16 => ?_)
          · exfalso; omega
          · refine Cd.skip ?_
            refine At.then_ ?_
            refine Cd.seq ?_
            refine Cd.region ?_
            refine Seg.step rfl rfl (Yd.move rfl) ?_
            refine Seg.step rfl rfl (Yd.indexAddr1 rfl rfl rfl (NatOf.cast 1) (by omega)) ?_
            refine Seg.step rfl rfl (Yd.load1 rfl rfl (hr _ _ hx1)) ?_
            (refine Seg.call rfl rfl (own_of rfl) rfl (hcut _ hm1) ?_; rintro _ w25 ⟨rfl, hE25⟩)
            replace hE4 := Ext.trans hE4 hE25
            replace hB4 := hB4.ext hE25
            replace hE0 := Ext.trans hE0 hE25
            replace hr := hr.ext hE25
            refine Seg.step rfl rfl (Yd.move rfl) ?_
            refine Seg.step rfl rfl (Yd.extract rfl rfl) ?_
            refine Seg.step rfl rfl (Yd.extract rfl rfl) ?_
            refine Seg.step rfl rfl (Yd.extract rfl rfl) ?_
            refine Seg.step rfl rfl (Yd.assign rfl) ?_
            refine Seg.step rfl rfl (Yd.assign rfl) ?_
            refine Seg.step rfl rfl (Yd.assign rfl) ?_
            refine Seg.nil ?_
            refine At.then_ ?_
            refine Cd.seq ?_
            refine Cd.seq ?_
            refine Cd.region ?_
            refine Seg.step rfl rfl (Yd.move rfl) ?_
            refine Seg.step rfl rfl (Yd.not rfl) ?_
            refine Seg.nil ?_
            refine At.then_ ?_
            refine Cd.condF rfl ?_
            refine Cd.skip ?_
            refine At.then_ ?_
            refine Cd.seq ?_
            refine Cd.region ?_
            refine Seg.step rfl rfl (Yd.move rfl) ?_
            (refine Seg.call rfl rfl (own_of rfl) rfl (hnum _ (by omega) (by omega)) ?_; rintro _ w48 ⟨rfl, hE48⟩)
            replace hE25 := Ext.trans hE25 hE48
            replace hE4 := Ext.trans hE4 hE48
            replace hB4 := hB4.ext hE48
            replace hE0 := Ext.trans hE0 hE48
            replace hr := hr.ext hE48
            refine Seg.step rfl rfl (Yd.move rfl) ?_
            refine Seg.step rfl rfl (Yd.extract rfl rfl) ?_
            refine Seg.step rfl rfl (Yd.extract rfl rfl) ?_
            refine Seg.step rfl rfl (Yd.assign rfl) ?_
            refine Seg.step rfl rfl (Yd.assign rfl) ?_
            refine Seg.nil ?_
            refine At.then_ ?_
            refine Cd.seq ?_
            refine Cd.seq ?_
            refine Cd.region ?_
            refine Seg.step rfl rfl (Yd.move rfl) ?_
            refine Seg.step rfl rfl (Yd.neq rfl rfl) ?_
            refine Seg.nil ?_
            refine At.then_ ?_
            refine Cd.condF rfl ?_
            refine Cd.skip ?_
            refine At.then_ ?_
            refine Cd.seq ?_
            refine Cd.region ?_
            refine Seg.step rfl rfl (Yd.move rfl) ?_
            refine Seg.step rfl rfl (Yd.buildT (cs := _ :: _ :: _ :: []) 3 rfl rfl rfl rfl rfl) ?_
            refine Seg.alloc rfl rfl rfl (fun w70 b70 hE70 hB70 hb70 => ?_)
            have hlt70_0 := Nat.le_trans hE48.size hb70
            have hlt70_1 := Nat.le_trans hE25.size hb70
            have hlt70_2 := Nat.le_trans hE4.size hb70
            have hlt70_3 := Nat.lt_of_lt_of_le hB4.lt hb70
            have hlt70_4 := Nat.le_trans hE0.size hb70
            replace hE48 := Ext.trans hE48 hE70
            replace hE25 := Ext.trans hE25 hE70
            replace hE4 := Ext.trans hE4 hE70
            replace hB4 := hB4.ext hE70
            replace hE0 := Ext.trans hE0 hE70
            replace hr := hr.ext hE70
            refine Seg.storeN rfl rfl rfl rfl hB70 rfl (by first | assumption | exact List.all_eq_true.1 rfl) (fun w71 hW71 hB71 => ?_)
            clear hB70
            replace hE70 := Ext.wr' hE70 hW71 (by omega)
            replace hE48 := Ext.wr' hE48 hW71 (by omega)
            replace hE25 := Ext.wr' hE25 hW71 (by omega)
            replace hE4 := Ext.wr' hE4 hW71 (by omega)
            replace hB4 := hB4.wr hW71 (by omega)
            replace hE0 := Ext.wr' hE0 hW71 (by omega)
            refine Seg.nil ?_
            refine At.then_ ?_
            refine Cd.seq ?_
            refine Cd.seq ?_
            refine Cd.region ?_
            refine Seg.step rfl rfl (Yd.move rfl) ?_
            (refine Seg.call rfl rfl (own_of rfl) rfl (hlow _ (by omega)) ?_; rintro _ w78 ⟨rfl, hE78⟩)
            replace hW71 := Wr.trans hW71 (Ext.wr hE78 _)
            replace hB71 := hB71.ext hE78
            replace hE70 := Ext.trans hE70 hE78
            replace hE48 := Ext.trans hE48 hE78
            replace hE25 := Ext.trans hE25 hE78
            replace hE4 := Ext.trans hE4 hE78
            replace hB4 := hB4.ext hE78
            replace hE0 := Ext.trans hE0 hE78
            refine Seg.nil ?_
            refine At.then_ ?_
            refine Cd.block ?_
            refine Cd.seq ?_
            refine Cd.region ?_
            refine Seg.step rfl rfl (Yd.eqlS rfl rfl) ?_
            refine Seg.step rfl rfl (Yd.assign rfl) ?_
            refine Seg.nil ?_
            refine At.then_ ?_
            refine Cd.condk rfl (fun h88 => ?_) (fun h88 => ?_)
            · contradiction
            · refine Cd.seq ?_
              refine Cd.region ?_
              refine Seg.step rfl rfl (Yd.eqlS rfl rfl) ?_
              refine Seg.step rfl rfl (Yd.assign rfl) ?_
              refine Seg.nil ?_
              refine At.then_ ?_
              refine Cd.condk rfl (fun h96 => ?_) (fun h96 => ?_)
              · contradiction
              · refine Cd.seq ?_
                refine Cd.region ?_
                refine Seg.step rfl rfl (Yd.buildT (cs := _ :: _ :: _ :: []) 3 rfl rfl rfl rfl rfl) ?_
                refine Seg.storeN rfl rfl rfl rfl hB4 rfl (by first | assumption | exact List.all_eq_true.1 rfl) (fun w101 hW101 hB101 => ?_)
                clear hB4
                replace hB71 := hB71.wr hW101 (by omega)
                replace hE4 := Ext.wr' hE4 hW101 (by omega)
                replace hE0 := Ext.wr' hE0 hW101 (by omega)
                refine Seg.step rfl rfl (Yd.assign rfl) ?_
                refine Seg.nil ?_
                refine At.then_ ?_
                refine Cd.ret ?_
                refine At.blk_ret ?_
                refine At.then_ret ?_
                exact At.ret Try.results25 (.cell rfl (run_loadVarN rfl rfl (Bx.row (by assumption : Bx _ b4 [.slice none 0 0, .int .i64 0, .int .i64 0]))) (.tmp rfl .nil)) ⟨⟨.nilFunc, rfl, fun s h => by cases h⟩, by assumption⟩
        · rw [if_neg hp] at hdef
          rw [hdef]
          by_cases ht : lowS right = [116, 99, 112]
          · have hpr : protoB right = 6 := by unfold protoB; rw [if_pos ht]
            rw [hpr]
            refine Cd.seq ?_
            refine Cd.region ?_
            refine Seg.alloc rfl rfl rfl (fun w4 b4 hE4 hB4 hb4 => ?_)
            have hlt4_0 := Nat.le_trans hE0.size hb4
            replace hE0 := Ext.trans hE0 hE4
            replace hr := hr.ext hE4
            refine Seg.step rfl rfl (Yd.assign rfl) ?_
            refine Seg.nil ?_
            refine At.then_ ?_
            refine Cd.seq ?_
            refine Cd.seq ?_
            refine Cd.region ?_
            refine Seg.step rfl rfl (Yd.move rfl) ?_
            refine Seg.step rfl rfl (Yd.lenS rfl rfl) ?_
            refine Seg.step rfl rfl (Yd.lss rfl rfl) ?_
            refine Seg.nil ?_
            refine At.then_ ?_
            refine Cd.condk rfl (fun h16 => ?_) (fun h16 => ?_)
            · exfalso; omega
            · refine Cd.skip ?_
              refine At.then_ ?_
              refine Cd.seq ?_
              refine Cd.region ?_
              refine Seg.step rfl rfl (Yd.move rfl) ?_
              refine Seg.step rfl rfl (Yd.indexAddr1 rfl rfl rfl (NatOf.cast 1) (by omega)) ?_
              refine Seg.step rfl rfl (Yd.load1 rfl rfl (hr _ _ hx1)) ?_
              (refine Seg.call rfl rfl (own_of rfl) rfl (hcut _ hm1) ?_; rintro _ w25 ⟨rfl, hE25⟩)
              replace hE4 := Ext.trans hE4 hE25
              replace hB4 := hB4.ext hE25
              replace hE0 := Ext.trans hE0 hE25
              replace hr := hr.ext hE25
              refine Seg.step rfl rfl (Yd.move rfl) ?_
              refine Seg.step rfl rfl (Yd.extract rfl rfl) ?_
              refine Seg.step rfl rfl (Yd.extract rfl rfl) ?_
              refine Seg.step rfl rfl (Yd.extract rfl rfl) ?_
              refine Seg.step rfl rfl (Yd.assign rfl) ?_
              refine Seg.step rfl rfl (Yd.assign rfl) ?_
              refine Seg.step rfl rfl (Yd.assign rfl) ?_
              refine Seg.nil ?_
              refine At.then_ ?_
              refine Cd.seq ?_
              refine Cd.seq ?_
              refine Cd.region ?_
              refine Seg.step rfl rfl (Yd.move rfl) ?_
              refine Seg.step rfl rfl (Yd.not rfl) ?_
              refine Seg.nil ?_
              refine At.then_ ?_
              refine Cd.condF rfl ?_
              refine Cd.skip ?_
              refine At.then_ ?_
              refine Cd.seq ?_
              refine Cd.region ?_
              refine Seg.step rfl rfl (Yd.move rfl) ?_
              (refine Seg.call rfl rfl (own_of rfl) rfl (hnum _ (by omega) (by omega)) ?_; rintro _ w48 ⟨rfl, hE48⟩)
              replace hE25 := Ext.trans hE25 hE48
              replace hE4 := Ext.trans hE4 hE48
              replace hB4 := hB4.ext hE48
              replace hE0 := Ext.trans hE0 hE48
              replace hr := hr.ext hE48
              refine Seg.step rfl rfl (Yd.move rfl) ?_
              refine Seg.step rfl rfl (Yd.extract rfl rfl) ?_
              refine Seg.step rfl rfl (Yd.extract rfl rfl) ?_
              refine Seg.step rfl rfl (Yd.assign rfl) ?_
              refine Seg.step rfl rfl (Yd.assign rfl) ?_
              refine Seg.nil ?_
              refine At.then_ ?_
              refine Cd.seq ?_
              refine Cd.seq ?_
              refine Cd.region ?_
              refine Seg.step rfl rfl (Yd.move rfl) ?_
              refine Seg.step rfl rfl (Yd.neq rfl rfl) ?_
              refine Seg.nil ?_
              refine At.then_ ?_
              refine Cd.condF rfl ?_
              refine Cd.skip ?_
              refine At.then_ ?_
              refine Cd.seq ?_
              refine Cd.region ?_
              refine Seg.step rfl rfl (Yd.move rfl) ?_
              refine Seg.step rfl rfl (Yd.buildT (cs := _ :: _ :: _ :: []) 3 rfl rfl rfl rfl rfl) ?_
              refine Seg.alloc rfl rfl rfl (fun w70 b70 hE70 hB70 hb70 => ?_)
              have hlt70_0 := Nat.le_trans hE48.size hb70
              have hlt70_1 := Nat.le_trans hE25.size hb70
              have hlt70_2 := Nat.le_trans hE4.size hb70
              have hlt70_3 := Nat.lt_of_lt_of_le hB4.lt hb70
              have hlt70_4 := Nat.le_trans hE0.size hb70
              replace hE48 := Ext.trans hE48 hE70
              replace hE25 := Ext.trans hE25 hE70
              replace hE4 := Ext.trans hE4 hE70
              replace hB4 := hB4.ext hE70
              replace hE0 := Ext.trans hE0 hE70
              replace hr := hr.ext hE70
              refine Seg.storeN rfl rfl rfl rfl hB70 rfl (by first | assumption | exact List.all_eq_true.1 rfl) (fun w71 hW71 hB71 => ?_)
              clear hB70
              replace hE70 := Ext.wr' hE70 hW71 (by omega)
              replace hE48 := Ext.wr' hE48 hW71 (by omega)
              replace hE25 := Ext.wr' hE25 hW71 (by omega)
              replace hE4 := Ext.wr' hE4 hW71 (by omega)
              replace hB4 := hB4.wr hW71 (by omega)
              replace hE0 := Ext.wr' hE0 hW71 (by omega)
              refine Seg.nil ?_
              refine At.then_ ?_
              refine Cd.seq ?_
              refine Cd.seq ?_
              refine Cd.region ?_
              refine Seg.step rfl rfl (Yd.move rfl) ?_
              (refine Seg.call rfl rfl (own_of rfl) rfl (hlow _ (by omega)) ?_; rintro _ w78 ⟨rfl, hE78⟩)
              replace hW71 := Wr.trans hW71 (Ext.wr hE78 _)
              replace hB71 := hB71.ext hE78
              replace hE70 := Ext.trans hE70 hE78
              replace hE48 := Ext.trans hE48 hE78
              replace hE25 := Ext.trans hE25 hE78
              replace hE4 := Ext.trans hE4 hE78
              replace hB4 := hB4.ext hE78
              replace hE0 := Ext.trans hE0 hE78
              refine Seg.nil ?_
              refine At.then_ ?_
              refine Cd.block ?_
              refine Cd.seq ?_
              refine Cd.region ?_
              refine Seg.step rfl rfl (Yd.eqlS rfl rfl) ?_
              refine Seg.step rfl rfl (Yd.assign rfl) ?_
              refine Seg.nil ?_
              refine At.then_ ?_
              refine Cd.condk rfl (fun h88 => ?_) (fun h88 => ?_)
              · refine Cd.region ?_
                refine Seg.step rfl rfl (Yd.fieldAddr rfl rfl) ?_
                refine Seg.store1 rfl rfl rfl rfl rfl hB71 (by first | omega | (simp; done) | exact Nat.le_of_ble_eq_true rfl) (fun w92 hW92 hB92 => ?_)
                clear hB71
                replace hW71 := Wr.trans hW71 hW92
                replace hE70 := Ext.wr' hE70 hW92 (by omega)
                replace hE48 := Ext.wr' hE48 hW92 (by omega)
                replace hE25 := Ext.wr' hE25 hW92 (by omega)
                replace hE4 := Ext.wr' hE4 hW92 (by omega)
                replace hB4 := hB4.wr hW92 (by omega)
                replace hE0 := Ext.wr' hE0 hW92 (by omega)
                refine Seg.nil ?_
                refine At.blk ?_
                refine At.then_ ?_
                refine Cd.seq ?_
                refine Cd.anyE (by kernel_rfl) (fun w97 hE97 => ?_)
                replace hW92 := Wr.trans hW92 (Ext.wr hE97 _)
                replace hB92 := hB92.ext hE97
                replace hW71 := Wr.trans hW71 (Ext.wr hE97 _)
                replace hE70 := Ext.trans hE70 hE97
                replace hE48 := Ext.trans hE48 hE97
                replace hE25 := Ext.trans hE25 hE97
                replace hE4 := Ext.trans hE4 hE97
                replace hB4 := hB4.ext hE97
                replace hE0 := Ext.trans hE0 hE97
                refine SegA.pure 0 rfl (by kernel_rfl) (by kernel_rfl) (by kernel_rfl) rfl rfl (fun _ => Yd.move rfl) ?_
                refine SegA.pure 1 rfl (by kernel_rfl) (by kernel_rfl) (by kernel_rfl) rfl rfl (fun _ => Yd.indexAddr1 rfl rfl rfl (NatOf.cast 0) (by omega)) ?_
                refine SegA.pure 4 rfl (by kernel_rfl) (by kernel_rfl) (by kernel_rfl) rfl rfl (fun _ => Yd.move rfl) ?_
                refine SegA.pure 5 rfl (by kernel_rfl) (by kernel_rfl) (by kernel_rfl) rfl rfl (fun _ => Yd.slSlL rfl rfl rfl (NatOf.cast 2) (by omega)) ?_
                refine SegA.oneSeg (o := ⟨_, _, _, _, _, _⟩) 2 rfl (by kernel_rfl) ?_
                refine Seg.step rfl rfl (Yd.load1 rfl rfl (((hr0 d rfl).ext hE0) _ _ hx0)) ?_
                refine SegA.back ?_
                refine SegA.oneSeg (o := ⟨_, _, _, _, _, _⟩) 3 rfl (by kernel_rfl) ?_
                refine Seg.buildSliceV rfl rfl rfl rfl rfl rfl rfl rfl rfl rfl (fun w106 b106 hE106 hB106 hb106 hO106 => ?_)
                have hlt106_0 := Nat.le_trans hE97.size hb106
                have hlt106_1 := Nat.lt_of_lt_of_le hB92.lt hb106
                have hlt106_2 := Nat.le_trans hE70.size hb106
                have hlt106_3 := Nat.le_trans hE48.size hb106
                have hlt106_4 := Nat.le_trans hE25.size hb106
                have hlt106_5 := Nat.le_trans hE4.size hb106
                have hlt106_6 := Nat.lt_of_lt_of_le hB4.lt hb106
                have hlt106_7 := Nat.le_trans hE0.size hb106
                replace hE97 := Ext.trans hE97 hE106
                replace hW92 := Wr.trans hW92 (Ext.wr hE106 _)
                replace hB92 := hB92.ext hE106
                replace hW71 := Wr.trans hW71 (Ext.wr hE106 _)
                replace hE70 := Ext.trans hE70 hE106
                replace hE48 := Ext.trans hE48 hE106
                replace hE25 := Ext.trans hE25 hE106
                replace hE4 := Ext.trans hE4 hE106
                replace hB4 := hB4.ext hE106
                replace hE0 := Ext.trans hE0 hE106
                refine SegA.back ?_
                refine SegA.oneSeg (o := ⟨_, _, _, _, _, _⟩) 6 rfl (by kernel_rfl) ?_
                (refine Seg.appendAt (m' := fs.length - 2) (news := strV (fs.drop 2)) rfl rfl rfl rfl rfl rfl rfl rfl rfl hO106 (by rw [← drop_cut]; exact Sl.cut (Sl.ext hk hE0) (by omega) (Nat.le_refl _) (hc _ _ _ rfl)) (strV_one _) (Nat.le_trans (hO106.lt _ rfl).1 (Nat.le_of_lt (Bx.lt hB106))) (by omega) rfl (fun vn w109 hN hG hAt => ?_); obtain ⟨va, vc, rfl⟩ := own_shape hN; have hSB : SlB w109 b106 w109.heap.size 1 (.slice va (1 + (fs.length - 2)) vc) _ _ := ⟨own_sl (names_row h1 hN), above_at hAt (fun k hk => by cases hk; exact Nat.le_refl _) (Nat.le_of_lt (Bx.lt hB106)), (own_sl (names_row h1 hN)).lt⟩; replace hB92 := hB92.grown hG (by simp [Value.ownBlock]; omega); replace hB4 := hB4.grown hG (by simp [Value.ownBlock]; omega); replace hE0 := Below.grown hE0 hG hE0.size (fun k hk => by cases hk; omega); have hcap := own_abc hN)
                refine SegA.back ?_
                refine SegA.pure 7 rfl (by kernel_rfl) (by kernel_rfl) (by kernel_rfl) rfl rfl (fun _ => Yd.fieldAddr rfl rfl) ?_
                refine SegA.oneSeg (o := ⟨_, _, _, _, _, _⟩) 8 rfl (by kernel_rfl) ?_
                refine Seg.store1 rfl rfl rfl rfl rfl hB92 (by first | omega | (simp; done) | exact Nat.le_of_ble_eq_true rfl) (fun w113 hW113 hB113 => ?_)
                clear hB92
                replace hSB := hSB.wr hW113 (by omega)
                replace hB4 := hB4.wr hW113 (by omega)
                replace hE0 := Below.wr' hE0 hW113 (by omega)
                refine SegA.back ?_
                refine SegA.done (by kernel_rfl) ?_
                refine At.then_ ?_
                refine Cd.seq ?_
                refine Cd.region ?_
                refine Seg.step rfl rfl (Yd.loadN rfl rfl rfl hB113.row) ?_
                refine Seg.storeN rfl rfl rfl rfl hB4 rfl (by first | assumption | exact List.all_eq_true.1 rfl) (fun w120 hW120 hB120 => ?_)
                clear hB4
                replace hB113 := hB113.wr hW120 (by omega)
                replace hSB := hSB.wr hW120 (by omega)
                replace hE0 := Ext.wr' hE0 hW120 (by omega)
                refine Seg.step rfl rfl (Yd.assign rfl) ?_
                refine Seg.nil ?_
                refine At.then_ ?_
                refine Cd.ret ?_
                exact At.ret Try.results25 (.cell rfl (run_loadVarN rfl rfl (Bx.row (by assumption : Bx _ b4 [.slice va (1 + (fs.length - 2)) vc, .int .i64 port, .int .i64 6]))) (.tmp rfl .nil)) ⟨⟨.slice va (1 + (fs.length - 2)) vc, rfl, fun s h => by cases h; exact ⟨hSB.1, hSB.2.1.down (by omega), hcap.2⟩⟩, by assumption⟩
              · contradiction
          · have hu : lowS right = [117, 100, 112] := Classical.byContradiction fun hu => hp (by unfold protoB; rw [if_neg ht, if_neg hu])
            have hpr : protoB right = 17 := by unfold protoB; rw [if_neg ht, if_pos hu]
            rw [hpr]
            refine Cd.seq ?_
            refine Cd.region ?_
            refine Seg.alloc rfl rfl rfl (fun w4 b4 hE4 hB4 hb4 => ?_)
            have hlt4_0 := Nat.le_trans hE0.size hb4
            replace hE0 := Ext.trans hE0 hE4
            replace hr := hr.ext hE4
            refine Seg.step rfl rfl (Yd.assign rfl) ?_
            refine Seg.nil ?_
            refine At.then_ ?_
            refine Cd.seq ?_
            refine Cd.seq ?_
            refine Cd.region ?_
            refine Seg.step rfl rfl (Yd.move rfl) ?_
            refine Seg.step rfl rfl (Yd.lenS rfl rfl) ?_
            refine Seg.step rfl rfl (Yd.lss rfl rfl) ?_
            refine Seg.nil ?_
            refine At.then_ ?_
            refine Cd.condk rfl (fun h16 => ?_) (fun h16 => ?_)
            · exfalso; omega
            · refine Cd.skip ?_
              refine At.then_ ?_
              refine Cd.seq ?_
              refine Cd.region ?_
              refine Seg.step rfl rfl (Yd.move rfl) ?_
              refine Seg.step rfl rfl (Yd.indexAddr1 rfl rfl rfl (NatOf.cast 1) (by omega)) ?_
              refine Seg.step rfl rfl (Yd.load1 rfl rfl (hr _ _ hx1)) ?_
              (refine Seg.call rfl rfl (own_of rfl) rfl (hcut _ hm1) ?_; rintro _ w25 ⟨rfl, hE25⟩)
              replace hE4 := Ext.trans hE4 hE25
              replace hB4 := hB4.ext hE25
              replace hE0 := Ext.trans hE0 hE25
              replace hr := hr.ext hE25
              refine Seg.step rfl rfl (Yd.move rfl) ?_
              refine Seg.step rfl rfl (Yd.extract rfl rfl) ?_
              refine Seg.step rfl rfl (Yd.extract rfl rfl) ?_
              refine Seg.step rfl rfl (Yd.extract rfl rfl) ?_
              refine Seg.step rfl rfl (Yd.assign rfl) ?_
              refine Seg.step rfl rfl (Yd.assign rfl) ?_
              refine Seg.step rfl rfl (Yd.assign rfl) ?_
              refine Seg.nil ?_
              refine At.then_ ?_
              refine Cd.seq ?_
              refine Cd.seq ?_
              refine Cd.region ?_
              refine Seg.step rfl rfl (Yd.move rfl) ?_
              refine Seg.step rfl rfl (Yd.not rfl) ?_
              refine Seg.nil ?_
              refine At.then_ ?_
              refine Cd.condF rfl ?_
              refine Cd.skip ?_
              refine At.then_ ?_
              refine Cd.seq ?_
              refine Cd.region ?_
              refine Seg.step rfl rfl (Yd.move rfl) ?_
              (refine Seg.call rfl rfl (own_of rfl) rfl (hnum _ (by omega) (by omega)) ?_; rintro _ w48 ⟨rfl, hE48⟩)
              replace hE25 := Ext.trans hE25 hE48
              replace hE4 := Ext.trans hE4 hE48
              replace hB4 := hB4.ext hE48
              replace hE0 := Ext.trans hE0 hE48
              replace hr := hr.ext hE48
              refine Seg.step rfl rfl (Yd.move rfl) ?_
              refine Seg.step rfl rfl (Yd.extract rfl rfl) ?_
              refine Seg.step rfl rfl (Yd.extract rfl rfl) ?_
              refine Seg.step rfl rfl (Yd.assign rfl) ?_
              refine Seg.step rfl rfl (Yd.assign rfl) ?_
              refine Seg.nil ?_
              refine At.then_ ?_
              refine Cd.seq ?_
              refine Cd.seq ?_
              refine Cd.region ?_
              refine Seg.step rfl rfl (Yd.move rfl) ?_
              refine Seg.step rfl rfl (Yd.neq rfl rfl) ?_
              refine Seg.nil ?_
              refine At.then_ ?_
              refine Cd.condF rfl ?_
              refine Cd.skip ?_
              refine At.then_ ?_
              refine Cd.seq ?_
              refine Cd.region ?_
              refine Seg.step rfl rfl (Yd.move rfl) ?_
              refine Seg.step rfl rfl (Yd.buildT (cs := _ :: _ :: _ :: []) 3 rfl rfl rfl rfl rfl) ?_
              refine Seg.alloc rfl rfl rfl (fun w70 b70 hE70 hB70 hb70 => ?_)
              have hlt70_0 := Nat.le_trans hE48.size hb70
              have hlt70_1 := Nat.le_trans hE25.size hb70
              have hlt70_2 := Nat.le_trans hE4.size hb70
              have hlt70_3 := Nat.lt_of_lt_of_le hB4.lt hb70
              have hlt70_4 := Nat.le_trans hE0.size hb70
              replace hE48 := Ext.trans hE48 hE70
              replace hE25 := Ext.trans hE25 hE70
              replace hE4 := Ext.trans hE4 hE70
              replace hB4 := hB4.ext hE70
              replace hE0 := Ext.trans hE0 hE70
              replace hr := hr.ext hE70
              refine Seg.storeN rfl rfl rfl rfl hB70 rfl (by first | assumption | exact List.all_eq_true.1 rfl) (fun w71 hW71 hB71 => ?_)
              clear hB70
              replace hE70 := Ext.wr' hE70 hW71 (by omega)
              replace hE48 := Ext.wr' hE48 hW71 (by omega)
              replace hE25 := Ext.wr' hE25 hW71 (by omega)
              replace hE4 := Ext.wr' hE4 hW71 (by omega)
              replace hB4 := hB4.wr hW71 (by omega)
              replace hE0 := Ext.wr' hE0 hW71 (by omega)
              refine Seg.nil ?_
              refine At.then_ ?_
              refine Cd.seq ?_
              refine Cd.seq ?_
              refine Cd.region ?_
              refine Seg.step rfl rfl (Yd.move rfl) ?_
              (refine Seg.call rfl rfl (own_of rfl) rfl (hlow _ (by omega)) ?_; rintro _ w78 ⟨rfl, hE78⟩)
              replace hW71 := Wr.trans hW71 (Ext.wr hE78 _)
              replace hB71 := hB71.ext hE78
              replace hE70 := Ext.trans hE70 hE78
              replace hE48 := Ext.trans hE48 hE78
              replace hE25 := Ext.trans hE25 hE78
              replace hE4 := Ext.trans hE4 hE78
              replace hB4 := hB4.ext hE78
              replace hE0 := Ext.trans hE0 hE78
              refine Seg.nil ?_
              refine At.then_ ?_
              refine Cd.block ?_
              refine Cd.seq ?_
              refine Cd.region ?_
              refine Seg.step rfl rfl (Yd.eqlS rfl rfl) ?_
              refine Seg.step rfl rfl (Yd.assign rfl) ?_
              refine Seg.nil ?_
              refine At.then_ ?_
              refine Cd.condk rfl (fun h88 => ?_) (fun h88 => ?_)
              · contradiction
              · refine Cd.seq ?_
                refine Cd.region ?_
                refine Seg.step rfl rfl (Yd.eqlS rfl rfl) ?_
                refine Seg.step rfl rfl (Yd.assign rfl) ?_
                refine Seg.nil ?_
                refine At.then_ ?_
                refine Cd.condk rfl (fun h96 => ?_) (fun h96 => ?_)
                · refine Cd.region ?_
                  refine Seg.step rfl rfl (Yd.fieldAddr rfl rfl) ?_
                  refine Seg.store1 rfl rfl rfl rfl rfl hB71 (by first | omega | (simp; done) | exact Nat.le_of_ble_eq_true rfl) (fun w100 hW100 hB100 => ?_)
                  clear hB71
                  replace hW71 := Wr.trans hW71 hW100
                  replace hE70 := Ext.wr' hE70 hW100 (by omega)
                  replace hE48 := Ext.wr' hE48 hW100 (by omega)
                  replace hE25 := Ext.wr' hE25 hW100 (by omega)
                  replace hE4 := Ext.wr' hE4 hW100 (by omega)
                  replace hB4 := hB4.wr hW100 (by omega)
                  replace hE0 := Ext.wr' hE0 hW100 (by omega)
                  refine Seg.nil ?_
                  refine At.blk ?_
                  refine At.then_ ?_
                  refine Cd.seq ?_
                  refine Cd.anyE (by kernel_rfl) (fun w105 hE105 => ?_)
                  replace hW100 := Wr.trans hW100 (Ext.wr hE105 _)
                  replace hB100 := hB100.ext hE105
                  replace hW71 := Wr.trans hW71 (Ext.wr hE105 _)
                  replace hE70 := Ext.trans hE70 hE105
                  replace hE48 := Ext.trans hE48 hE105
                  replace hE25 := Ext.trans hE25 hE105
                  replace hE4 := Ext.trans hE4 hE105
                  replace hB4 := hB4.ext hE105
                  replace hE0 := Ext.trans hE0 hE105
                  refine SegA.pure 0 rfl (by kernel_rfl) (by kernel_rfl) (by kernel_rfl) rfl rfl (fun _ => Yd.move rfl) ?_
                  refine SegA.pure 1 rfl (by kernel_rfl) (by kernel_rfl) (by kernel_rfl) rfl rfl (fun _ => Yd.indexAddr1 rfl rfl rfl (NatOf.cast 0) (by omega)) ?_
                  refine SegA.pure 4 rfl (by kernel_rfl) (by kernel_rfl) (by kernel_rfl) rfl rfl (fun _ => Yd.move rfl) ?_
                  refine SegA.pure 5 rfl (by kernel_rfl) (by kernel_rfl) (by kernel_rfl) rfl rfl (fun _ => Yd.slSlL rfl rfl rfl (NatOf.cast 2) (by omega)) ?_
                  refine SegA.oneSeg (o := ⟨_, _, _, _, _, _⟩) 2 rfl (by kernel_rfl) ?_
                  refine Seg.step rfl rfl (Yd.load1 rfl rfl (((hr0 d rfl).ext hE0) _ _ hx0)) ?_
                  refine SegA.back ?_
                  refine SegA.oneSeg (o := ⟨_, _, _, _, _, _⟩) 3 rfl (by kernel_rfl) ?_
                  refine Seg.buildSliceV rfl rfl rfl rfl rfl rfl rfl rfl rfl rfl (fun w114 b114 hE114 hB114 hb114 hO114 => ?_)
                  have hlt114_0 := Nat.le_trans hE105.size hb114
                  have hlt114_1 := Nat.lt_of_lt_of_le hB100.lt hb114
                  have hlt114_2 := Nat.le_trans hE70.size hb114
                  have hlt114_3 := Nat.le_trans hE48.size hb114
                  have hlt114_4 := Nat.le_trans hE25.size hb114
                  have hlt114_5 := Nat.le_trans hE4.size hb114
                  have hlt114_6 := Nat.lt_of_lt_of_le hB4.lt hb114
                  have hlt114_7 := Nat.le_trans hE0.size hb114
                  replace hE105 := Ext.trans hE105 hE114
                  replace hW100 := Wr.trans hW100 (Ext.wr hE114 _)
                  replace hB100 := hB100.ext hE114
                  replace hW71 := Wr.trans hW71 (Ext.wr hE114 _)
                  replace hE70 := Ext.trans hE70 hE114
                  replace hE48 := Ext.trans hE48 hE114
                  replace hE25 := Ext.trans hE25 hE114
                  replace hE4 := Ext.trans hE4 hE114
                  replace hB4 := hB4.ext hE114
                  replace hE0 := Ext.trans hE0 hE114
                  refine SegA.back ?_
                  refine SegA.oneSeg (o := ⟨_, _, _, _, _, _⟩) 6 rfl (by kernel_rfl) ?_
                  (refine Seg.appendAt (m' := fs.length - 2) (news := strV (fs.drop 2)) rfl rfl rfl rfl rfl rfl rfl rfl rfl hO114 (by rw [← drop_cut]; exact Sl.cut (Sl.ext hk hE0) (by omega) (Nat.le_refl _) (hc _ _ _ rfl)) (strV_one _) (Nat.le_trans (hO114.lt _ rfl).1 (Nat.le_of_lt (Bx.lt hB114))) (by omega) rfl (fun vn w117 hN hG hAt => ?_); obtain ⟨va, vc, rfl⟩ := own_shape hN; have hSB : SlB w117 b114 w117.heap.size 1 (.slice va (1 + (fs.length - 2)) vc) _ _ := ⟨own_sl (names_row h1 hN), above_at hAt (fun k hk => by cases hk; exact Nat.le_refl _) (Nat.le_of_lt (Bx.lt hB114)), (own_sl (names_row h1 hN)).lt⟩; replace hB100 := hB100.grown hG (by simp [Value.ownBlock]; omega); replace hB4 := hB4.grown hG (by simp [Value.ownBlock]; omega); replace hE0 := Below.grown hE0 hG hE0.size (fun k hk => by cases hk; omega); have hcap := own_abc hN)
                  refine SegA.back ?_
                  refine SegA.pure 7 rfl (by kernel_rfl) (by kernel_rfl) (by kernel_rfl) rfl rfl (fun _ => Yd.fieldAddr rfl rfl) ?_
                  refine SegA.oneSeg (o := ⟨_, _, _, _, _, _⟩) 8 rfl (by kernel_rfl) ?_
                  refine Seg.store1 rfl rfl rfl rfl rfl hB100 (by first | omega | (simp; done) | exact Nat.le_of_ble_eq_true rfl) (fun w121 hW121 hB121 => ?_)
                  clear hB100
                  replace hSB := hSB.wr hW121 (by omega)
                  replace hB4 := hB4.wr hW121 (by omega)
                  replace hE0 := Below.wr' hE0 hW121 (by omega)
                  refine SegA.back ?_
                  refine SegA.done (by kernel_rfl) ?_
                  refine At.then_ ?_
                  refine Cd.seq ?_
                  refine Cd.region ?_
                  refine Seg.step rfl rfl (Yd.loadN rfl rfl rfl hB121.row) ?_
                  refine Seg.storeN rfl rfl rfl rfl hB4 rfl (by first | assumption | exact List.all_eq_true.1 rfl) (fun w128 hW128 hB128 => ?_)
                  clear hB4
                  replace hB121 := hB121.wr hW128 (by omega)
                  replace hSB := hSB.wr hW128 (by omega)
                  replace hE0 := Ext.wr' hE0 hW128 (by omega)
                  refine Seg.step rfl rfl (Yd.assign rfl) ?_
                  refine Seg.nil ?_
                  refine At.then_ ?_
                  refine Cd.ret ?_
                  exact At.ret Try.results25 (.cell rfl (run_loadVarN rfl rfl (Bx.row (by assumption : Bx _ b4 [.slice va (1 + (fs.length - 2)) vc, .int .i64 port, .int .i64 17]))) (.tmp rfl .nil)) ⟨⟨.slice va (1 + (fs.length - 2)) vc, rfl, fun s h => by cases h; exact ⟨hSB.1, hSB.2.1.down (by omega), hcap.2⟩⟩, by assumption⟩
                · contradiction
      · rw [if_pos he] at hdef
        rw [hdef]
        refine Cd.seq ?_
        refine Cd.region ?_
        refine Seg.alloc rfl rfl rfl (fun w4 b4 hE4 hB4 hb4 => ?_)
        have hlt4_0 := Nat.le_trans hE0.size hb4
        replace hE0 := Ext.trans hE0 hE4
        replace hr := hr.ext hE4
        refine Seg.step rfl rfl (Yd.assign rfl) ?_
        refine Seg.nil ?_
        refine At.then_ ?_
        refine Cd.seq ?_
        refine Cd.seq ?_
        refine Cd.region ?_
        refine Seg.step rfl rfl (Yd.move rfl) ?_
        refine Seg.step rfl rfl (Yd.lenS rfl rfl) ?_
        refine Seg.step rfl rfl (Yd.lss rfl rfl) ?_
        refine Seg.nil ?_
        refine At.then_ ?_
        refine Cd.condk rfl (fun h16 => ?_) (fun h16 => ?_)
        · exfalso; omega
        · refine Cd.skip ?_
          refine At.then_ ?_
          refine Cd.seq ?_
          refine Cd.region ?_
          refine Seg.step rfl rfl (Yd.move rfl) ?_
          refine Seg.step rfl rfl (Yd.indexAddr1 rfl rfl rfl (NatOf.cast 1) (by omega)) ?_
          refine Seg.step rfl rfl (Yd.load1 rfl rfl (hr _ _ hx1)) ?_
          (refine Seg.call rfl rfl (own_of rfl) rfl (hcut _ hm1) ?_; rintro _ w25 ⟨rfl, hE25⟩)
          replace hE4 := Ext.trans hE4 hE25
          replace hB4 := hB4.ext hE25
          replace hE0 := Ext.trans hE0 hE25
          replace hr := hr.ext hE25
          refine Seg.step rfl rfl (Yd.move rfl) ?_
          refine Seg.step rfl rfl (Yd.extract rfl rfl) ?_
          refine Seg.step rfl rfl (Yd.extract rfl rfl) ?_
          refine Seg.step rfl rfl (Yd.extract rfl rfl) ?_
          refine Seg.step rfl rfl (Yd.assign rfl) ?_
          refine Seg.step rfl rfl (Yd.assign rfl) ?_
          refine Seg.step rfl rfl (Yd.assign rfl) ?_
          refine Seg.nil ?_
          refine At.then_ ?_
          refine Cd.seq ?_
          refine Cd.seq ?_
          refine Cd.region ?_
          refine Seg.step rfl rfl (Yd.move rfl) ?_
          refine Seg.step rfl rfl (Yd.not rfl) ?_
          refine Seg.nil ?_
          refine At.then_ ?_
          refine Cd.condF rfl ?_
          refine Cd.skip ?_
          refine At.then_ ?_
          refine Cd.seq ?_
          refine Cd.region ?_
          refine Seg.step rfl rfl (Yd.move rfl) ?_
          (refine Seg.call rfl rfl (own_of rfl) rfl (hnum _ (by omega) (by omega)) ?_; rintro _ w48 ⟨rfl, hE48⟩)
          replace hE25 := Ext.trans hE25 hE48
          replace hE4 := Ext.trans hE4 hE48
          replace hB4 := hB4.ext hE48
          replace hE0 := Ext.trans hE0 hE48
          replace hr := hr.ext hE48
          refine Seg.step rfl rfl (Yd.move rfl) ?_
          refine Seg.step rfl rfl (Yd.extract rfl rfl) ?_
          refine Seg.step rfl rfl (Yd.extract rfl rfl) ?_
          refine Seg.step rfl rfl (Yd.assign rfl) ?_
          refine Seg.step rfl rfl (Yd.assign rfl) ?_
          refine Seg.nil ?_
          refine At.then_ ?_
          refine Cd.seq ?_
          refine Cd.seq ?_
          refine Cd.region ?_
          refine Seg.step rfl rfl (Yd.move rfl) ?_
          refine Seg.step rfl rfl (Yd.neq rfl rfl) ?_
          refine Seg.nil ?_
          refine At.then_ ?_
          refine Cd.condk rfl (fun h63 => ?_) (fun h63 => ?_)
          · refine Cd.seq ?_
            refine Cd.region ?_
            refine Seg.step rfl rfl (Yd.buildT (cs := _ :: _ :: _ :: []) 3 rfl rfl rfl rfl rfl) ?_
            refine Seg.storeN rfl rfl rfl rfl hB4 rfl (by first | assumption | exact List.all_eq_true.1 rfl) (fun w68 hW68 hB68 => ?_)
            clear hB4
            replace hE4 := Ext.wr' hE4 hW68 (by omega)
            replace hE0 := Ext.wr' hE0 hW68 (by omega)
            refine Seg.step rfl rfl (Yd.assign rfl) ?_
            refine Seg.nil ?_
            refine At.then_ ?_
            refine Cd.ret ?_
            refine At.then_ret ?_
            exact At.ret Try.results25 (.cell rfl (run_loadVarN rfl rfl (Bx.row (by assumption : Bx _ b4 [.slice none 0 0, .int .i64 0, .int .i64 0]))) (.tmp rfl .nil)) ⟨⟨.nilFunc, rfl, fun s h => by cases h⟩, by assumption⟩
          · exfalso; omega
end Go.Proofs.Ytbmgigbedmgfpaa
