/-
  A run through a piece of code: the reference, as the law calls it.
-/
import Derived.Test.YteaacelfnkiboaaRunW
import Derived.Deep.DeepCutAuto
import Derived.Deep.CutBlock
namespace Go.Proofs.Yteaacelfnkiboaa
open Go.RowKit

set_option linter.unusedVariables false
set_option linter.unusedSimpArgs false
set_option maxRecDepth 100000

set_option maxHeartbeats 1000000 in
theorem specIrRun_p (b : IrBlock) (m : MchMach) (vb1 vm1 vm2 vm3 vm4 : Value) (w : World) (hb1 : Sl w (Old w) vb1 b.ops) (hm1 : Sl w (Old w) vm1 m.regs) (hm2 : Sl w (Old w) vm2 m.mem) (hm3 : Sl w (Old w) vm3 m.ins) (hm4 : Sl w (Old w) vm4 m.outs) (hn1 : m.regs.length ≤ 4194304) (hn2 : m.mem.length ≤ 4194304) (hn3 : m.ins.length ≤ 4194304) (hn4 : m.outs.length ≤ 4194304) (hbo : b.Ok) (hn5 : m.outs.length ≤ 4190000) :
    Calls Try.prog 23 #[.agg #[.int .i64 b.pc, .int .i64 b.len, vb1, .int .i64 b.fin, .int .i64 b.x, .int .i64 b.y, .int .i64 b.k], .agg #[vm1, .int .i64 m.pc, vm2, .int .i64 m.save, .bool m.lets, .bool m.waits, .int .i64 m.halt, vm3, vm4, .int .i64 m.count]] w fun e w' => ∃ (r1 r2 r3 r4 : Value) (F1 F2 F3 F4 : List Nat), e = .returned (.tuple #[.agg #[r1, .int .i64 (irRun b m).pc, r2, .int .i64 (irRun b m).save, .bool (irRun b m).lets, .bool (irRun b m).waits, .int .i64 (irRun b m).halt, r3, r4, .int .i64 (irRun b m).count], .bool (irRunOk b m)]) ∧ OwnSl w' r1 (irRun b m).regs F1 ∧ OwnSl w' r2 (irRun b m).mem F2 ∧ OwnSl w' r3 (irRun b m).ins F3 ∧ OwnSl w' r4 (irRun b m).outs F4 ∧ Fr w w' (F1 ++ F2 ++ F3 ++ F4) ∧ Ext w w' :=
  specIrRun_any b m vb1 vm1 vm2 vm3 vm4 w hb1 hm1 hm2 hm3 hm4 hn1 hn2 hn3 hn4 hbo hn5

end Go.Proofs.Yteaacelfnkiboaa
