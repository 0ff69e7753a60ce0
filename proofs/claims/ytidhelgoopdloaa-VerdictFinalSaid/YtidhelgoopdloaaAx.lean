/- What a reply means: verdict.Of and the reference say the same; the walks. -/
import Derived.Test.YtidhelgoopdloaaWkd
import Derived.Test.YtidhelgoopdloaaWkt
namespace Go.Proofs.Ytidhelgoopdloaa
open Go Go.RowKit
def vOf (tc : Bool) (rc : Int) (conn edns : Bool) : Int :=
  if tc = true ∧ conn = false then 2 else if rc = 0 ∨ rc = 3 then 1 else if rc = 2 then 4 else if (rc = 1 ∨ rc = 4) ∧ edns = true then 3 else 5

theorem vdOf_any (c0 c1 c2 c3 c5 c6 c7 c8 : Value) (tc conn edns : Bool) (rc : Int) (w : World) :
    Ret Try.prog 8 #[.agg #[c0, c1, c2, c3, .bool tc, c5, c6, c7, c8, .int .i64 rc], .bool conn, .bool edns] w
      fun v w' => v = .int .i64 (vOf tc rc conn edns) ∧ Ext w w' := by
  refine Ret.body Try.func8 rfl Try.ntmps8 rfl ?_
  refine Cd.seq ?_
  refine Cd.region ?_
  refine Seg.box rfl rfl rfl (fun w3 b3 hE3 hB3 hb3 => ?_)
  refine Seg.step rfl rfl (Yd.assign rfl) ?_
  refine Seg.nil ?_
  refine At.then_ ?_
  refine Cd.seq ?_
  refine Cd.seq ?_
  refine Cd.region ?_
  refine Seg.step rfl rfl (Yd.fieldAddr rfl rfl) ?_
  refine Seg.step rfl rfl (Yd.load1 rfl rfl (hB3.row _ _ rfl)) ?_
  refine Seg.step rfl rfl (Yd.move rfl) ?_
  refine Seg.gsplit rfl rfl (fun h13 => ?_) (fun h13 => ?_)
  · refine Seg.step rfl rfl (Yd.move rfl) ?_
    refine Seg.step rfl rfl (Yd.not rfl) ?_
    refine Seg.step rfl rfl (Yd.pickT rfl rfl) ?_
    refine Seg.nil ?_
    refine At.then_ ?_
    refine Cd.condkb rfl (fun h20 => ?_) (fun h20 => ?_)
    · refine Cd.seq ?_
      refine Cd.region ?_
      refine Seg.step rfl rfl (Yd.assign rfl) ?_
      refine Seg.nil ?_
      refine At.then_ ?_
      refine Cd.ret ?_
      refine At.then_ret ?_
      (refine At.ret Try.results8 (.tmp rfl .nil) ⟨?_, by assumption⟩; simp_all [resOne, vOf])
    · refine Cd.skip ?_
      refine At.then_ ?_
      refine Cd.seq ?_
      refine Cd.seq ?_
      refine Cd.region ?_
      refine Seg.step rfl rfl (Yd.fieldAddr rfl rfl) ?_
      refine Seg.step rfl rfl (Yd.load1 rfl rfl (hB3.row _ _ rfl)) ?_
      refine Seg.nil ?_
      refine At.then_ ?_
      refine Cd.block ?_
      refine Cd.seq ?_
      refine Cd.seq ?_
      refine Cd.region ?_
      refine Seg.step rfl rfl (Yd.eql rfl rfl) ?_
      refine Seg.step rfl rfl (Yd.assign rfl) ?_
      refine Seg.nil ?_
      refine At.then_ ?_
      refine Cd.condk rfl (fun h48 => ?_) (fun h48 => ?_)
      · refine Cd.skip ?_
        refine At.then_ ?_
        refine Cd.condT rfl ?_
        refine Cd.seq ?_
        refine Cd.region ?_
        refine Seg.step rfl rfl (Yd.assign rfl) ?_
        refine Seg.nil ?_
        refine At.then_ ?_
        refine Cd.ret ?_
        refine At.blk_ret ?_
        refine At.then_ret ?_
        (refine At.ret Try.results8 (.tmp rfl .nil) ⟨?_, by assumption⟩; simp_all [resOne, vOf])
      · refine Cd.region ?_
        refine Seg.step rfl rfl (Yd.eql rfl rfl) ?_
        refine Seg.step rfl rfl (Yd.assign rfl) ?_
        refine Seg.nil ?_
        refine At.then_ ?_
        refine Cd.condk rfl (fun h68 => ?_) (fun h68 => ?_)
        · refine Cd.seq ?_
          refine Cd.region ?_
          refine Seg.step rfl rfl (Yd.assign rfl) ?_
          refine Seg.nil ?_
          refine At.then_ ?_
          refine Cd.ret ?_
          refine At.blk_ret ?_
          refine At.then_ret ?_
          (refine At.ret Try.results8 (.tmp rfl .nil) ⟨?_, by assumption⟩; simp_all [resOne, vOf])
        · refine Cd.seq ?_
          refine Cd.region ?_
          refine Seg.step rfl rfl (Yd.eql rfl rfl) ?_
          refine Seg.step rfl rfl (Yd.assign rfl) ?_
          refine Seg.nil ?_
          refine At.then_ ?_
          refine Cd.condk rfl (fun h86 => ?_) (fun h86 => ?_)
          · refine Cd.seq ?_
            refine Cd.region ?_
            refine Seg.step rfl rfl (Yd.assign rfl) ?_
            refine Seg.nil ?_
            refine At.then_ ?_
            refine Cd.ret ?_
            refine At.blk_ret ?_
            refine At.then_ret ?_
            (refine At.ret Try.results8 (.tmp rfl .nil) ⟨?_, by assumption⟩; simp_all [resOne, vOf])
          · refine Cd.seq ?_
            refine Cd.seq ?_
            refine Cd.region ?_
            refine Seg.step rfl rfl (Yd.eql rfl rfl) ?_
            refine Seg.step rfl rfl (Yd.assign rfl) ?_
            refine Seg.nil ?_
            refine At.then_ ?_
            refine Cd.condk rfl (fun h105 => ?_) (fun h105 => ?_)
            · refine Cd.skip ?_
              refine At.then_ ?_
              refine Cd.condT rfl ?_
              refine Cd.seq ?_
              refine Cd.region ?_
              refine Seg.step rfl rfl (Yd.move rfl) ?_
              refine Seg.nil ?_
              refine At.then_ ?_
              refine Cd.condkb rfl (fun h115 => ?_) (fun h115 => ?_)
              · refine Cd.seq ?_
                refine Cd.region ?_
                refine Seg.step rfl rfl (Yd.assign rfl) ?_
                refine Seg.nil ?_
                refine At.then_ ?_
                refine Cd.ret ?_
                refine At.blk_ret ?_
                refine At.then_ret ?_
                (refine At.ret Try.results8 (.tmp rfl .nil) ⟨?_, by assumption⟩; simp_all [resOne, vOf])
              · refine Cd.skip ?_
                refine At.blk ?_
                refine At.then_ ?_
                refine Cd.seq ?_
                refine Cd.region ?_
                refine Seg.step rfl rfl (Yd.assign rfl) ?_
                refine Seg.nil ?_
                refine At.then_ ?_
                refine Cd.ret ?_
                (refine At.ret Try.results8 (.tmp rfl .nil) ⟨?_, by assumption⟩; simp_all [resOne, vOf])
            · refine Cd.region ?_
              refine Seg.step rfl rfl (Yd.eql rfl rfl) ?_
              refine Seg.step rfl rfl (Yd.assign rfl) ?_
              refine Seg.nil ?_
              refine At.then_ ?_
              refine Cd.condk rfl (fun h143 => ?_) (fun h143 => ?_)
              · refine Cd.seq ?_
                refine Cd.region ?_
                refine Seg.step rfl rfl (Yd.move rfl) ?_
                refine Seg.nil ?_
                refine At.then_ ?_
                refine Cd.condkb rfl (fun h150 => ?_) (fun h150 => ?_)
                · refine Cd.seq ?_
                  refine Cd.region ?_
                  refine Seg.step rfl rfl (Yd.assign rfl) ?_
                  refine Seg.nil ?_
                  refine At.then_ ?_
                  refine Cd.ret ?_
                  refine At.blk_ret ?_
                  refine At.then_ret ?_
                  (refine At.ret Try.results8 (.tmp rfl .nil) ⟨?_, by assumption⟩; simp_all [resOne, vOf])
                · refine Cd.skip ?_
                  refine At.blk ?_
                  refine At.then_ ?_
                  refine Cd.seq ?_
                  refine Cd.region ?_
                  refine Seg.step rfl rfl (Yd.assign rfl) ?_
                  refine Seg.nil ?_
                  refine At.then_ ?_
                  refine Cd.ret ?_
                  (refine At.ret Try.results8 (.tmp rfl .nil) ⟨?_, by assumption⟩; simp_all [resOne, vOf])
              · refine Cd.skip ?_
                refine At.blk ?_
                refine At.then_ ?_
                refine Cd.seq ?_
                refine Cd.region ?_
                refine Seg.step rfl rfl (Yd.assign rfl) ?_
                refine Seg.nil ?_
                refine At.then_ ?_
                refine Cd.ret ?_
                (refine At.ret Try.results8 (.tmp rfl .nil) ⟨?_, by assumption⟩; simp_all [resOne, vOf])
  · refine Seg.skip rfl rfl ?_
    refine Seg.skip rfl rfl ?_
    refine Seg.step rfl rfl (Yd.pickF rfl rfl) ?_
    refine Seg.nil ?_
    refine At.then_ ?_
    refine Cd.condF rfl ?_
    refine Cd.skip ?_
    refine At.then_ ?_
    refine Cd.seq ?_
    refine Cd.seq ?_
    refine Cd.region ?_
    refine Seg.step rfl rfl (Yd.fieldAddr rfl rfl) ?_
    refine Seg.step rfl rfl (Yd.load1 rfl rfl (hB3.row _ _ rfl)) ?_
    refine Seg.nil ?_
    refine At.then_ ?_
    refine Cd.block ?_
    refine Cd.seq ?_
    refine Cd.seq ?_
    refine Cd.region ?_
    refine Seg.step rfl rfl (Yd.eql rfl rfl) ?_
    refine Seg.step rfl rfl (Yd.assign rfl) ?_
    refine Seg.nil ?_
    refine At.then_ ?_
    refine Cd.condk rfl (fun h207 => ?_) (fun h207 => ?_)
    · refine Cd.skip ?_
      refine At.then_ ?_
      refine Cd.condT rfl ?_
      refine Cd.seq ?_
      refine Cd.region ?_
      refine Seg.step rfl rfl (Yd.assign rfl) ?_
      refine Seg.nil ?_
      refine At.then_ ?_
      refine Cd.ret ?_
      refine At.blk_ret ?_
      refine At.then_ret ?_
      (refine At.ret Try.results8 (.tmp rfl .nil) ⟨?_, by assumption⟩; simp_all [resOne, vOf])
    · refine Cd.region ?_
      refine Seg.step rfl rfl (Yd.eql rfl rfl) ?_
      refine Seg.step rfl rfl (Yd.assign rfl) ?_
      refine Seg.nil ?_
      refine At.then_ ?_
      refine Cd.condk rfl (fun h227 => ?_) (fun h227 => ?_)
      · refine Cd.seq ?_
        refine Cd.region ?_
        refine Seg.step rfl rfl (Yd.assign rfl) ?_
        refine Seg.nil ?_
        refine At.then_ ?_
        refine Cd.ret ?_
        refine At.blk_ret ?_
        refine At.then_ret ?_
        (refine At.ret Try.results8 (.tmp rfl .nil) ⟨?_, by assumption⟩; simp_all [resOne, vOf])
      · refine Cd.seq ?_
        refine Cd.region ?_
        refine Seg.step rfl rfl (Yd.eql rfl rfl) ?_
        refine Seg.step rfl rfl (Yd.assign rfl) ?_
        refine Seg.nil ?_
        refine At.then_ ?_
        refine Cd.condk rfl (fun h245 => ?_) (fun h245 => ?_)
        · refine Cd.seq ?_
          refine Cd.region ?_
          refine Seg.step rfl rfl (Yd.assign rfl) ?_
          refine Seg.nil ?_
          refine At.then_ ?_
          refine Cd.ret ?_
          refine At.blk_ret ?_
          refine At.then_ret ?_
          (refine At.ret Try.results8 (.tmp rfl .nil) ⟨?_, by assumption⟩; simp_all [resOne, vOf])
        · refine Cd.seq ?_
          refine Cd.seq ?_
          refine Cd.region ?_
          refine Seg.step rfl rfl (Yd.eql rfl rfl) ?_
          refine Seg.step rfl rfl (Yd.assign rfl) ?_
          refine Seg.nil ?_
          refine At.then_ ?_
          refine Cd.condk rfl (fun h264 => ?_) (fun h264 => ?_)
          · refine Cd.skip ?_
            refine At.then_ ?_
            refine Cd.condT rfl ?_
            refine Cd.seq ?_
            refine Cd.region ?_
            refine Seg.step rfl rfl (Yd.move rfl) ?_
            refine Seg.nil ?_
            refine At.then_ ?_
            refine Cd.condkb rfl (fun h274 => ?_) (fun h274 => ?_)
            · refine Cd.seq ?_
              refine Cd.region ?_
              refine Seg.step rfl rfl (Yd.assign rfl) ?_
              refine Seg.nil ?_
              refine At.then_ ?_
              refine Cd.ret ?_
              refine At.blk_ret ?_
              refine At.then_ret ?_
              (refine At.ret Try.results8 (.tmp rfl .nil) ⟨?_, by assumption⟩; simp_all [resOne, vOf])
            · refine Cd.skip ?_
              refine At.blk ?_
              refine At.then_ ?_
              refine Cd.seq ?_
              refine Cd.region ?_
              refine Seg.step rfl rfl (Yd.assign rfl) ?_
              refine Seg.nil ?_
              refine At.then_ ?_
              refine Cd.ret ?_
              (refine At.ret Try.results8 (.tmp rfl .nil) ⟨?_, by assumption⟩; simp_all [resOne, vOf])
          · refine Cd.region ?_
            refine Seg.step rfl rfl (Yd.eql rfl rfl) ?_
            refine Seg.step rfl rfl (Yd.assign rfl) ?_
            refine Seg.nil ?_
            refine At.then_ ?_
            refine Cd.condk rfl (fun h302 => ?_) (fun h302 => ?_)
            · refine Cd.seq ?_
              refine Cd.region ?_
              refine Seg.step rfl rfl (Yd.move rfl) ?_
              refine Seg.nil ?_
              refine At.then_ ?_
              refine Cd.condkb rfl (fun h309 => ?_) (fun h309 => ?_)
              · refine Cd.seq ?_
                refine Cd.region ?_
                refine Seg.step rfl rfl (Yd.assign rfl) ?_
                refine Seg.nil ?_
                refine At.then_ ?_
                refine Cd.ret ?_
                refine At.blk_ret ?_
                refine At.then_ret ?_
                (refine At.ret Try.results8 (.tmp rfl .nil) ⟨?_, by assumption⟩; simp_all [resOne, vOf])
              · refine Cd.skip ?_
                refine At.blk ?_
                refine At.then_ ?_
                refine Cd.seq ?_
                refine Cd.region ?_
                refine Seg.step rfl rfl (Yd.assign rfl) ?_
                refine Seg.nil ?_
                refine At.then_ ?_
                refine Cd.ret ?_
                (refine At.ret Try.results8 (.tmp rfl .nil) ⟨?_, by assumption⟩; simp_all [resOne, vOf])
            · refine Cd.skip ?_
              refine At.blk ?_
              refine At.then_ ?_
              refine Cd.seq ?_
              refine Cd.region ?_
              refine Seg.step rfl rfl (Yd.assign rfl) ?_
              refine Seg.nil ?_
              refine At.then_ ?_
              refine Cd.ret ?_
              (refine At.ret Try.results8 (.tmp rfl .nil) ⟨?_, by assumption⟩; simp_all [resOne, vOf])

theorem refOf_any (c0 c1 c2 c3 c5 c6 c7 c8 : Value) (tc conn edns : Bool) (rc : Int) (w : World) :
    Ret Try.prog 9 #[.agg #[c0, c1, c2, c3, .bool tc, c5, c6, c7, c8, .int .i64 rc], .bool conn, .bool edns] w
      fun v w' => v = .int .i64 (vOf tc rc conn edns) ∧ Ext w w' := by
  refine Ret.body Try.func9 rfl Try.ntmps9 rfl ?_
  refine Cd.seq ?_
  refine Cd.region ?_
  refine Seg.box rfl rfl rfl (fun w3 b3 hE3 hB3 hb3 => ?_)
  refine Seg.step rfl rfl (Yd.assign rfl) ?_
  refine Seg.nil ?_
  refine At.then_ ?_
  refine Cd.seq ?_
  refine Cd.block ?_
  refine Cd.seq ?_
  refine Cd.region ?_
  refine Seg.step rfl rfl (Yd.fieldAddr rfl rfl) ?_
  refine Seg.step rfl rfl (Yd.load1 rfl rfl (hB3.row _ _ rfl)) ?_
  refine Seg.step rfl rfl (Yd.move rfl) ?_
  refine Seg.gsplit rfl rfl (fun h14 => ?_) (fun h14 => ?_)
  · refine Seg.step rfl rfl (Yd.move rfl) ?_
    refine Seg.step rfl rfl (Yd.not rfl) ?_
    refine Seg.step rfl rfl (Yd.pickT rfl rfl) ?_
    refine Seg.step rfl rfl (Yd.assign rfl) ?_
    refine Seg.nil ?_
    refine At.then_ ?_
    refine Cd.condkb rfl (fun h22 => ?_) (fun h22 => ?_)
    · refine Cd.seq ?_
      refine Cd.region ?_
      refine Seg.step rfl rfl (Yd.assign rfl) ?_
      refine Seg.nil ?_
      refine At.then_ ?_
      refine Cd.ret ?_
      refine At.blk_ret ?_
      refine At.then_ret ?_
      (refine At.ret Try.results9 (.tmp rfl .nil) ⟨?_, by assumption⟩; simp_all [resOne, vOf])
    · refine Cd.seq ?_
      refine Cd.region ?_
      refine Seg.step rfl rfl (Yd.fieldAddr rfl rfl) ?_
      refine Seg.step rfl rfl (Yd.load1 rfl rfl (hB3.row _ _ rfl)) ?_
      refine Seg.step rfl rfl (Yd.eql rfl rfl) ?_
      refine Seg.step rfl rfl (Yd.move rfl) ?_
      refine Seg.gsplitp rfl rfl (fun h40 => ?_) (fun h40 => ?_)
      · refine Seg.skip rfl rfl ?_
        refine Seg.skip rfl rfl ?_
        refine Seg.skip rfl rfl ?_
        refine Seg.step rfl rfl (Yd.pickT rfl rfl) ?_
        refine Seg.step rfl rfl (Yd.assign rfl) ?_
        refine Seg.nil ?_
        refine At.then_ ?_
        refine Cd.condT rfl ?_
        refine Cd.seq ?_
        refine Cd.region ?_
        refine Seg.step rfl rfl (Yd.assign rfl) ?_
        refine Seg.nil ?_
        refine At.then_ ?_
        refine Cd.ret ?_
        refine At.blk_ret ?_
        refine At.then_ret ?_
        (refine At.ret Try.results9 (.tmp rfl .nil) ⟨?_, by assumption⟩; simp_all [resOne, vOf])
      · refine Seg.step rfl rfl (Yd.fieldAddr rfl rfl) ?_
        refine Seg.step rfl rfl (Yd.load1 rfl rfl (hB3.row _ _ rfl)) ?_
        refine Seg.step rfl rfl (Yd.eql rfl rfl) ?_
        refine Seg.step rfl rfl (Yd.pickF rfl rfl) ?_
        refine Seg.step rfl rfl (Yd.assign rfl) ?_
        refine Seg.nil ?_
        refine At.then_ ?_
        refine Cd.condk rfl (fun h67 => ?_) (fun h67 => ?_)
        · refine Cd.seq ?_
          refine Cd.region ?_
          refine Seg.step rfl rfl (Yd.assign rfl) ?_
          refine Seg.nil ?_
          refine At.then_ ?_
          refine Cd.ret ?_
          refine At.blk_ret ?_
          refine At.then_ret ?_
          (refine At.ret Try.results9 (.tmp rfl .nil) ⟨?_, by assumption⟩; simp_all [resOne, vOf])
        · refine Cd.seq ?_
          refine Cd.region ?_
          refine Seg.step rfl rfl (Yd.fieldAddr rfl rfl) ?_
          refine Seg.step rfl rfl (Yd.load1 rfl rfl (hB3.row _ _ rfl)) ?_
          refine Seg.step rfl rfl (Yd.eql rfl rfl) ?_
          refine Seg.step rfl rfl (Yd.assign rfl) ?_
          refine Seg.nil ?_
          refine At.then_ ?_
          refine Cd.condk rfl (fun h87 => ?_) (fun h87 => ?_)
          · refine Cd.seq ?_
            refine Cd.region ?_
            refine Seg.step rfl rfl (Yd.assign rfl) ?_
            refine Seg.nil ?_
            refine At.then_ ?_
            refine Cd.ret ?_
            refine At.blk_ret ?_
            refine At.then_ret ?_
            (refine At.ret Try.results9 (.tmp rfl .nil) ⟨?_, by assumption⟩; simp_all [resOne, vOf])
          · refine Cd.seq ?_
            refine Cd.region ?_
            refine Seg.step rfl rfl (Yd.move rfl) ?_
            refine Seg.step rfl rfl (Yd.move rfl) ?_
            refine Seg.gsplit rfl rfl (fun h103 => ?_) (fun h103 => ?_)
            · refine Seg.step rfl rfl (Yd.fieldAddr rfl rfl) ?_
              refine Seg.step rfl rfl (Yd.load1 rfl rfl (hB3.row _ _ rfl)) ?_
              refine Seg.step rfl rfl (Yd.eql rfl rfl) ?_
              refine Seg.step rfl rfl (Yd.move rfl) ?_
              refine Seg.gsplitp rfl rfl (fun h109 => ?_) (fun h109 => ?_)
              · refine Seg.skip rfl rfl ?_
                refine Seg.skip rfl rfl ?_
                refine Seg.skip rfl rfl ?_
                refine Seg.step rfl rfl (Yd.pickT rfl rfl) ?_
                refine Seg.step rfl rfl (Yd.pickT rfl rfl) ?_
                refine Seg.step rfl rfl (Yd.assign rfl) ?_
                refine Seg.nil ?_
                refine At.then_ ?_
                refine Cd.condT rfl ?_
                refine Cd.seq ?_
                refine Cd.region ?_
                refine Seg.step rfl rfl (Yd.assign rfl) ?_
                refine Seg.nil ?_
                refine At.then_ ?_
                refine Cd.ret ?_
                refine At.blk_ret ?_
                refine At.then_ret ?_
                (refine At.ret Try.results9 (.tmp rfl .nil) ⟨?_, by assumption⟩; simp_all [resOne, vOf])
              · refine Seg.step rfl rfl (Yd.fieldAddr rfl rfl) ?_
                refine Seg.step rfl rfl (Yd.load1 rfl rfl (hB3.row _ _ rfl)) ?_
                refine Seg.step rfl rfl (Yd.eql rfl rfl) ?_
                refine Seg.step rfl rfl (Yd.pickF rfl rfl) ?_
                refine Seg.step rfl rfl (Yd.pickT rfl rfl) ?_
                refine Seg.step rfl rfl (Yd.assign rfl) ?_
                refine Seg.nil ?_
                refine At.then_ ?_
                refine Cd.condk rfl (fun h138 => ?_) (fun h138 => ?_)
                · refine Cd.seq ?_
                  refine Cd.region ?_
                  refine Seg.step rfl rfl (Yd.assign rfl) ?_
                  refine Seg.nil ?_
                  refine At.then_ ?_
                  refine Cd.ret ?_
                  refine At.blk_ret ?_
                  refine At.then_ret ?_
                  (refine At.ret Try.results9 (.tmp rfl .nil) ⟨?_, by assumption⟩; simp_all [resOne, vOf])
                · refine Cd.skip ?_
                  refine At.blk ?_
                  refine At.then_ ?_
                  refine Cd.seq ?_
                  refine Cd.region ?_
                  refine Seg.step rfl rfl (Yd.assign rfl) ?_
                  refine Seg.nil ?_
                  refine At.then_ ?_
                  refine Cd.ret ?_
                  (refine At.ret Try.results9 (.tmp rfl .nil) ⟨?_, by assumption⟩; simp_all [resOne, vOf])
            · refine Seg.skip rfl rfl ?_
              refine Seg.skip rfl rfl ?_
              refine Seg.skip rfl rfl ?_
              refine Seg.skip rfl rfl ?_
              refine Seg.skip rfl rfl ?_
              refine Seg.skip rfl rfl ?_
              refine Seg.skip rfl rfl ?_
              refine Seg.skip rfl rfl ?_
              refine Seg.step rfl rfl (Yd.pickF rfl rfl) ?_
              refine Seg.step rfl rfl (Yd.assign rfl) ?_
              refine Seg.nil ?_
              refine At.then_ ?_
              refine Cd.condF rfl ?_
              refine Cd.skip ?_
              refine At.blk ?_
              refine At.then_ ?_
              refine Cd.seq ?_
              refine Cd.region ?_
              refine Seg.step rfl rfl (Yd.assign rfl) ?_
              refine Seg.nil ?_
              refine At.then_ ?_
              refine Cd.ret ?_
              (refine At.ret Try.results9 (.tmp rfl .nil) ⟨?_, by assumption⟩; simp_all [resOne, vOf])
  · refine Seg.skip rfl rfl ?_
    refine Seg.skip rfl rfl ?_
    refine Seg.step rfl rfl (Yd.pickF rfl rfl) ?_
    refine Seg.step rfl rfl (Yd.assign rfl) ?_
    refine Seg.nil ?_
    refine At.then_ ?_
    refine Cd.condF rfl ?_
    refine Cd.seq ?_
    refine Cd.region ?_
    refine Seg.step rfl rfl (Yd.fieldAddr rfl rfl) ?_
    refine Seg.step rfl rfl (Yd.load1 rfl rfl (hB3.row _ _ rfl)) ?_
    refine Seg.step rfl rfl (Yd.eql rfl rfl) ?_
    refine Seg.step rfl rfl (Yd.move rfl) ?_
    refine Seg.gsplitp rfl rfl (fun h198 => ?_) (fun h198 => ?_)
    · refine Seg.skip rfl rfl ?_
      refine Seg.skip rfl rfl ?_
      refine Seg.skip rfl rfl ?_
      refine Seg.step rfl rfl (Yd.pickT rfl rfl) ?_
      refine Seg.step rfl rfl (Yd.assign rfl) ?_
      refine Seg.nil ?_
      refine At.then_ ?_
      refine Cd.condT rfl ?_
      refine Cd.seq ?_
      refine Cd.region ?_
      refine Seg.step rfl rfl (Yd.assign rfl) ?_
      refine Seg.nil ?_
      refine At.then_ ?_
      refine Cd.ret ?_
      refine At.blk_ret ?_
      refine At.then_ret ?_
      (refine At.ret Try.results9 (.tmp rfl .nil) ⟨?_, by assumption⟩; simp_all [resOne, vOf])
    · refine Seg.step rfl rfl (Yd.fieldAddr rfl rfl) ?_
      refine Seg.step rfl rfl (Yd.load1 rfl rfl (hB3.row _ _ rfl)) ?_
      refine Seg.step rfl rfl (Yd.eql rfl rfl) ?_
      refine Seg.step rfl rfl (Yd.pickF rfl rfl) ?_
      refine Seg.step rfl rfl (Yd.assign rfl) ?_
      refine Seg.nil ?_
      refine At.then_ ?_
      refine Cd.condk rfl (fun h225 => ?_) (fun h225 => ?_)
      · refine Cd.seq ?_
        refine Cd.region ?_
        refine Seg.step rfl rfl (Yd.assign rfl) ?_
        refine Seg.nil ?_
        refine At.then_ ?_
        refine Cd.ret ?_
        refine At.blk_ret ?_
        refine At.then_ret ?_
        (refine At.ret Try.results9 (.tmp rfl .nil) ⟨?_, by assumption⟩; simp_all [resOne, vOf])
      · refine Cd.seq ?_
        refine Cd.region ?_
        refine Seg.step rfl rfl (Yd.fieldAddr rfl rfl) ?_
        refine Seg.step rfl rfl (Yd.load1 rfl rfl (hB3.row _ _ rfl)) ?_
        refine Seg.step rfl rfl (Yd.eql rfl rfl) ?_
        refine Seg.step rfl rfl (Yd.assign rfl) ?_
        refine Seg.nil ?_
        refine At.then_ ?_
        refine Cd.condk rfl (fun h245 => ?_) (fun h245 => ?_)
        · refine Cd.seq ?_
          refine Cd.region ?_
          refine Seg.step rfl rfl (Yd.assign rfl) ?_
          refine Seg.nil ?_
          refine At.then_ ?_
          refine Cd.ret ?_
          refine At.blk_ret ?_
          refine At.then_ret ?_
          (refine At.ret Try.results9 (.tmp rfl .nil) ⟨?_, by assumption⟩; simp_all [resOne, vOf])
        · refine Cd.seq ?_
          refine Cd.region ?_
          refine Seg.step rfl rfl (Yd.move rfl) ?_
          refine Seg.step rfl rfl (Yd.move rfl) ?_
          refine Seg.gsplit rfl rfl (fun h261 => ?_) (fun h261 => ?_)
          · refine Seg.step rfl rfl (Yd.fieldAddr rfl rfl) ?_
            refine Seg.step rfl rfl (Yd.load1 rfl rfl (hB3.row _ _ rfl)) ?_
            refine Seg.step rfl rfl (Yd.eql rfl rfl) ?_
            refine Seg.step rfl rfl (Yd.move rfl) ?_
            refine Seg.gsplitp rfl rfl (fun h267 => ?_) (fun h267 => ?_)
            · refine Seg.skip rfl rfl ?_
              refine Seg.skip rfl rfl ?_
              refine Seg.skip rfl rfl ?_
              refine Seg.step rfl rfl (Yd.pickT rfl rfl) ?_
              refine Seg.step rfl rfl (Yd.pickT rfl rfl) ?_
              refine Seg.step rfl rfl (Yd.assign rfl) ?_
              refine Seg.nil ?_
              refine At.then_ ?_
              refine Cd.condT rfl ?_
              refine Cd.seq ?_
              refine Cd.region ?_
              refine Seg.step rfl rfl (Yd.assign rfl) ?_
              refine Seg.nil ?_
              refine At.then_ ?_
              refine Cd.ret ?_
              refine At.blk_ret ?_
              refine At.then_ret ?_
              (refine At.ret Try.results9 (.tmp rfl .nil) ⟨?_, by assumption⟩; simp_all [resOne, vOf])
            · refine Seg.step rfl rfl (Yd.fieldAddr rfl rfl) ?_
              refine Seg.step rfl rfl (Yd.load1 rfl rfl (hB3.row _ _ rfl)) ?_
              refine Seg.step rfl rfl (Yd.eql rfl rfl) ?_
              refine Seg.step rfl rfl (Yd.pickF rfl rfl) ?_
              refine Seg.step rfl rfl (Yd.pickT rfl rfl) ?_
              refine Seg.step rfl rfl (Yd.assign rfl) ?_
              refine Seg.nil ?_
              refine At.then_ ?_
              refine Cd.condk rfl (fun h296 => ?_) (fun h296 => ?_)
              · refine Cd.seq ?_
                refine Cd.region ?_
                refine Seg.step rfl rfl (Yd.assign rfl) ?_
                refine Seg.nil ?_
                refine At.then_ ?_
                refine Cd.ret ?_
                refine At.blk_ret ?_
                refine At.then_ret ?_
                (refine At.ret Try.results9 (.tmp rfl .nil) ⟨?_, by assumption⟩; simp_all [resOne, vOf])
              · refine Cd.skip ?_
                refine At.blk ?_
                refine At.then_ ?_
                refine Cd.seq ?_
                refine Cd.region ?_
                refine Seg.step rfl rfl (Yd.assign rfl) ?_
                refine Seg.nil ?_
                refine At.then_ ?_
                refine Cd.ret ?_
                (refine At.ret Try.results9 (.tmp rfl .nil) ⟨?_, by assumption⟩; simp_all [resOne, vOf])
          · refine Seg.skip rfl rfl ?_
            refine Seg.skip rfl rfl ?_
            refine Seg.skip rfl rfl ?_
            refine Seg.skip rfl rfl ?_
            refine Seg.skip rfl rfl ?_
            refine Seg.skip rfl rfl ?_
            refine Seg.skip rfl rfl ?_
            refine Seg.skip rfl rfl ?_
            refine Seg.step rfl rfl (Yd.pickF rfl rfl) ?_
            refine Seg.step rfl rfl (Yd.assign rfl) ?_
            refine Seg.nil ?_
            refine At.then_ ?_
            refine Cd.condF rfl ?_
            refine Cd.skip ?_
            refine At.blk ?_
            refine At.then_ ?_
            refine Cd.seq ?_
            refine Cd.region ?_
            refine Seg.step rfl rfl (Yd.assign rfl) ?_
            refine Seg.nil ?_
            refine At.then_ ?_
            refine Cd.ret ?_
            (refine At.ret Try.results9 (.tmp rfl .nil) ⟨?_, by assumption⟩; simp_all [resOne, vOf])

theorem works27 (w : World) : Ret Try.prog 7 #[] w fun v w' => v = .bool true ∧ Ext w w' := by
  refine Ret.body (args := []) Try.func7 rfl Try.ntmps7 rfl ?_
  refine Cd.seq ?_
  refine Cd.region ?_
  refine Seg.step rfl rfl (Yd.assign rfl) ?_
  refine Seg.nil ?_
  refine At.then_ ?_
  refine Cd.seq ?_
  refine Cd.region ?_
  refine Seg.step rfl rfl (Yd.build rfl rfl rfl rfl) ?_
  (refine Seg.call rfl rfl (own_of rfl) rfl (vdOf_any _ _ _ _ _ _ _ _ _ _ _ _ _) ?_; rintro _ w9 ⟨rfl, hE9⟩)
  refine Seg.step rfl rfl (Yd.eql rfl rfl) ?_
  refine Seg.step rfl rfl (Yd.move rfl) ?_
  refine Seg.step rfl rfl (Yd.build rfl rfl rfl rfl) ?_
  (refine Seg.call rfl rfl (own_of rfl) rfl (vdOf_any _ _ _ _ _ _ _ _ _ _ _ _ _) ?_; rintro _ w13 ⟨rfl, hE13⟩)
  replace hE9 := Ext.trans hE9 hE13
  refine Seg.step rfl rfl (Yd.eql rfl rfl) ?_
  refine Seg.step rfl rfl (Yd.pickT rfl rfl) ?_
  refine Seg.step rfl rfl (Yd.move rfl) ?_
  refine Seg.step rfl rfl (Yd.pickT rfl rfl) ?_
  refine Seg.step rfl rfl (Yd.move rfl) ?_
  refine Seg.step rfl rfl (Yd.pickT rfl rfl) ?_
  refine Seg.step rfl rfl (Yd.move rfl) ?_
  refine Seg.step rfl rfl (Yd.pickT rfl rfl) ?_
  refine Seg.step rfl rfl (Yd.move rfl) ?_
  refine Seg.step rfl rfl (Yd.pickT rfl rfl) ?_
  refine Seg.step rfl rfl (Yd.move rfl) ?_
  refine Seg.step rfl rfl (Yd.pickT rfl rfl) ?_
  refine Seg.step rfl rfl (Yd.assign rfl) ?_
  refine Seg.nil ?_
  refine At.then_ ?_
  refine Cd.ret ?_
  exact At.ret Try.results7 (.tmp rfl .nil) ⟨rfl, by assumption⟩

theorem law27 (c0 c1 c2 c3 c5 c6 c7 c8 : Value) (tc conn edns : Bool) (rc : Int) (w : World) :
    Ret Try.prog 3 #[.agg #[c0, c1, c2, c3, .bool tc, c5, c6, c7, c8, .int .i64 rc], .bool conn, .bool edns] w
      fun v w' => v = .bool true ∧ Ext w w' := by
  refine Ret.body Try.func3 rfl Try.ntmps3 rfl ?_
  refine Cd.seq ?_
  refine Cd.region ?_
  refine Seg.box rfl rfl rfl (fun w3 b3 hE3 hB3 hb3 => ?_)
  refine Seg.step rfl rfl (Yd.assign rfl) ?_
  refine Seg.nil ?_
  refine At.then_ ?_
  refine Cd.seq ?_
  refine Cd.quiet (by kernel_rfl) (by kernel_rfl) ?_
  refine SegQ.call rfl rfl (own_of rfl) rfl (fun w' hw' => (works27 w').mono fun v w2 ⟨hv, h2⟩ => ⟨hv, hw'.trans h2⟩) ?_
  refine SegQ.step rfl rfl (fun w' hw' => Yd.move rfl) ?_
  refine SegQ.step rfl rfl (fun w' hw' => Yd.loadN rfl rfl rfl (hB3.ext hw').row) ?_
  refine SegQ.step rfl rfl (fun w' hw' => Yd.move rfl) ?_
  refine SegQ.step rfl rfl (fun w' hw' => Yd.move rfl) ?_
  refine SegQ.call rfl rfl (own_of rfl) rfl (fun w' hw' => (vdOf_any _ _ _ _ _ _ _ _ _ _ _ _ w').mono fun v w2 ⟨hv, h2⟩ => ⟨hv, hw'.trans h2⟩) ?_
  refine SegQ.step rfl rfl (fun w' hw' => Yd.loadN rfl rfl rfl (hB3.ext hw').row) ?_
  refine SegQ.step rfl rfl (fun w' hw' => Yd.move rfl) ?_
  refine SegQ.step rfl rfl (fun w' hw' => Yd.move rfl) ?_
  refine SegQ.call rfl rfl (own_of rfl) rfl (fun w' hw' => (refOf_any _ _ _ _ _ _ _ _ _ _ _ _ w').mono fun v w2 ⟨hv, h2⟩ => ⟨hv, hw'.trans h2⟩) ?_
  refine SegQ.step rfl rfl (fun w' hw' => Yd.eql rfl rfl) ?_
  refine SegQ.step rfl rfl (fun w' hw' => Yd.pickT rfl rfl) ?_
  refine SegQ.step rfl rfl (fun w' hw' => Yd.assign rfl) ?_
  refine SegQ.nil fun w22 hE22 => ?_
  replace hE3 := Ext.trans hE3 hE22
  replace hB3 := hB3.ext hE22
  refine At.then_ ?_
  refine Cd.ret ?_
  exact At.ret Try.results3 (.tmp rfl .nil) ⟨by simp [resOne], by assumption⟩
end Go.Proofs.Ytidhelgoopdloaa
