/-
  What a value is that was written over with numbers.
-/
import Derived.Test.YteaacelfnkiboaaTy
import Derived.Test.YteaacelfnkiboaaMarkLib
namespace Go.Proofs.Yteaacelfnkiboaa
open Go.RowKit

set_option linter.unusedVariables false
set_option linter.unusedSimpArgs false
set_option maxRecDepth 100000

instance : Mk IrOp := ⟨fun o k => { kind := k, x := k + 1, y := k + 1 + 1, k := k + 1 + 1 + 1, at_ := k + 1 + 1 + 1 + 1 }, fun o => 1 + 1 + 1 + 1 + 1⟩

instance : Mk IrBlock := ⟨fun o k => { pc := k, len := k + 1, ops := Mk.put o.ops (k + 1 + 1), fin := k + 1 + 1 + ((Mk.ct o.ops : Nat) : Int), x := k + 1 + 1 + ((Mk.ct o.ops : Nat) : Int) + 1, y := k + 1 + 1 + ((Mk.ct o.ops : Nat) : Int) + 1 + 1, k := k + 1 + 1 + ((Mk.ct o.ops : Nat) : Int) + 1 + 1 + 1 }, fun o => 1 + 1 + Mk.ct o.ops + 1 + 1 + 1 + 1⟩

def IrBlock.mkV (o : IrBlock) (k : Int) : IrBlock := { pc := o.pc, len := o.len, ops := Mk.put o.ops (k), fin := o.fin, x := o.x, y := o.y, k := o.k }
def IrBlock.ctV (o : IrBlock) : Nat := Mk.ct o.ops

instance : Mk MchMach := ⟨fun o k => { regs := Mk.put o.regs (k), pc := k + ((Mk.ct o.regs : Nat) : Int), mem := Mk.put o.mem (k + ((Mk.ct o.regs : Nat) : Int) + 1), save := k + ((Mk.ct o.regs : Nat) : Int) + 1 + ((Mk.ct o.mem : Nat) : Int), lets := (k + ((Mk.ct o.regs : Nat) : Int) + 1 + ((Mk.ct o.mem : Nat) : Int) + 1) % 3 == 0, waits := (k + ((Mk.ct o.regs : Nat) : Int) + 1 + ((Mk.ct o.mem : Nat) : Int) + 1 + 1) % 3 == 0, halt := k + ((Mk.ct o.regs : Nat) : Int) + 1 + ((Mk.ct o.mem : Nat) : Int) + 1 + 1 + 1, ins := Mk.put o.ins (k + ((Mk.ct o.regs : Nat) : Int) + 1 + ((Mk.ct o.mem : Nat) : Int) + 1 + 1 + 1 + 1), outs := Mk.put o.outs (k + ((Mk.ct o.regs : Nat) : Int) + 1 + ((Mk.ct o.mem : Nat) : Int) + 1 + 1 + 1 + 1 + ((Mk.ct o.ins : Nat) : Int)), count := k + ((Mk.ct o.regs : Nat) : Int) + 1 + ((Mk.ct o.mem : Nat) : Int) + 1 + 1 + 1 + 1 + ((Mk.ct o.ins : Nat) : Int) + ((Mk.ct o.outs : Nat) : Int) }, fun o => Mk.ct o.regs + 1 + Mk.ct o.mem + 1 + 1 + 1 + 1 + Mk.ct o.ins + Mk.ct o.outs + 1⟩

def MchMach.mkV (o : MchMach) (k : Int) : MchMach := { regs := Mk.put o.regs (k), pc := o.pc, mem := Mk.put o.mem (k + ((Mk.ct o.regs : Nat) : Int)), save := o.save, lets := o.lets, waits := o.waits, halt := o.halt, ins := Mk.put o.ins (k + ((Mk.ct o.regs : Nat) : Int) + ((Mk.ct o.mem : Nat) : Int)), outs := Mk.put o.outs (k + ((Mk.ct o.regs : Nat) : Int) + ((Mk.ct o.mem : Nat) : Int) + ((Mk.ct o.ins : Nat) : Int)), count := o.count }
def MchMach.ctV (o : MchMach) : Nat := Mk.ct o.regs + Mk.ct o.mem + Mk.ct o.ins + Mk.ct o.outs

instance : Mk InsIns := ⟨fun o k => { op := k, d := k + 1, a := k + 1 + 1, k := k + 1 + 1 + 1 }, fun o => 1 + 1 + 1 + 1⟩

end Go.Proofs.Yteaacelfnkiboaa
