/-
  A run, as the laws call it.
-/
import Derived.Test.YtabldlhigjhkeaaDoorLawLib
import Derived.Test.YtabldlhigjhkeaaDoorRunI
namespace Go.Proofs.YtabldlhigjhkeaaDoor
open Go.RowKit

set_option linter.unusedVariables false
set_option linter.unusedSimpArgs false
set_option maxRecDepth 100000

set_option maxHeartbeats 4000000 in
theorem implRun_r (m : MchMach) (irqs : List Int) (n : Int) (vm1 vm2 vm3 vm4 virqs : Value) (w : World) (hm1 : Sl w (Old w) vm1 m.regs) (hm2 : Sl w (Old w) vm2 m.mem) (hm3 : Sl w (Old w) vm3 m.ins) (hm4 : Sl w (Old w) vm4 m.outs) (hirqs : Sl w (Old w) virqs irqs) (hn1 : m.regs.length ≤ 4194304) (hn2 : m.mem.length ≤ 4194304) (hn3 : m.ins.length ≤ 4194304) (hn4 : m.outs.length ≤ 4194304) (hn5 : m.outs.length ≤ 4190000) (lf : Nat) (hF : Forms lf w) :
    Calls Tryd.prog 25 #[.agg #[vm1, .int .i64 m.pc, vm2, .int .i64 m.save, .bool m.lets, .bool m.waits, .int .i64 m.halt, vm3, vm4, .int .i64 m.count], virqs, .int .i64 n] w fun e w' => MRet (mRun m irqs n) w e w' :=
  (implMchRun_p m irqs n vm1 vm2 vm3 vm4 virqs w hm1 hm2 hm3 hm4 hirqs hn1 hn2 hn3 hn4 hn5 lf hF).mono fun e w' ⟨_, _, _, _, _, _, _, _, he, h1, h2, h3, h4, hf, hE⟩ => MRet.of_own he h1 h2 h3 h4 hf hE

end Go.Proofs.YtabldlhigjhkeaaDoor
