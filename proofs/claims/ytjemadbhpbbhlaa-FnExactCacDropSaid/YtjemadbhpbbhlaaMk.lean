/-
  What a value is that was written over with numbers.
-/
import Derived.Test.YtjemadbhpbbhlaaTy
import Derived.Test.YtjemadbhpbbhlaaMarkLib
namespace Go.Proofs.Ytjemadbhpbbhlaa
open Go.RowKit

set_option linter.unusedVariables false
set_option linter.unusedSimpArgs false
set_option maxRecDepth 100000

instance : Mk IrOp := ⟨fun o k => { kind := k, x := k + 1, y := k + 1 + 1, k := k + 1 + 1 + 1, at_ := k + 1 + 1 + 1 + 1 }, fun o => 1 + 1 + 1 + 1 + 1⟩

instance : Mk IrBlock := ⟨fun o k => { pc := k, len := k + 1, ops := Mk.put o.ops (k + 1 + 1), fin := k + 1 + 1 + ((Mk.ct o.ops : Nat) : Int), x := k + 1 + 1 + ((Mk.ct o.ops : Nat) : Int) + 1, y := k + 1 + 1 + ((Mk.ct o.ops : Nat) : Int) + 1 + 1, k := k + 1 + 1 + ((Mk.ct o.ops : Nat) : Int) + 1 + 1 + 1 }, fun o => 1 + 1 + Mk.ct o.ops + 1 + 1 + 1 + 1⟩

def IrBlock.mkV (o : IrBlock) (k : Int) : IrBlock := { pc := o.pc, len := o.len, ops := Mk.put o.ops (k), fin := o.fin, x := o.x, y := o.y, k := o.k }
def IrBlock.ctV (o : IrBlock) : Nat := Mk.ct o.ops

instance : Mk CacEntry := ⟨fun o k => { words := Mk.put o.words (k), block := { pc := k + ((Mk.ct o.words : Nat) : Int), len := k + ((Mk.ct o.words : Nat) : Int) + 1, ops := Mk.put o.block.ops (k + ((Mk.ct o.words : Nat) : Int) + 1 + 1), fin := k + ((Mk.ct o.words : Nat) : Int) + 1 + 1 + ((Mk.ct o.block.ops : Nat) : Int), x := k + ((Mk.ct o.words : Nat) : Int) + 1 + 1 + ((Mk.ct o.block.ops : Nat) : Int) + 1, y := k + ((Mk.ct o.words : Nat) : Int) + 1 + 1 + ((Mk.ct o.block.ops : Nat) : Int) + 1 + 1, k := k + ((Mk.ct o.words : Nat) : Int) + 1 + 1 + ((Mk.ct o.block.ops : Nat) : Int) + 1 + 1 + 1 } }, fun o => Mk.ct o.words + 1 + 1 + Mk.ct o.block.ops + 1 + 1 + 1 + 1⟩

def CacEntry.mkV (o : CacEntry) (k : Int) : CacEntry := { words := Mk.put o.words (k), block := { pc := o.block.pc, len := o.block.len, ops := Mk.put o.block.ops (k + ((Mk.ct o.words : Nat) : Int)), fin := o.block.fin, x := o.block.x, y := o.block.y, k := o.block.k } }
def CacEntry.ctV (o : CacEntry) : Nat := Mk.ct o.words + Mk.ct o.block.ops

instance : Mk CerPair := ⟨fun o k => { base := { pc := k, len := k + 1, ops := Mk.put o.base.ops (k + 1 + 1), fin := k + 1 + 1 + ((Mk.ct o.base.ops : Nat) : Int), x := k + 1 + 1 + ((Mk.ct o.base.ops : Nat) : Int) + 1, y := k + 1 + 1 + ((Mk.ct o.base.ops : Nat) : Int) + 1 + 1, k := k + 1 + 1 + ((Mk.ct o.base.ops : Nat) : Int) + 1 + 1 + 1 }, made := { pc := k + 1 + 1 + ((Mk.ct o.base.ops : Nat) : Int) + 1 + 1 + 1 + 1, len := k + 1 + 1 + ((Mk.ct o.base.ops : Nat) : Int) + 1 + 1 + 1 + 1 + 1, ops := Mk.put o.made.ops (k + 1 + 1 + ((Mk.ct o.base.ops : Nat) : Int) + 1 + 1 + 1 + 1 + 1 + 1), fin := k + 1 + 1 + ((Mk.ct o.base.ops : Nat) : Int) + 1 + 1 + 1 + 1 + 1 + 1 + ((Mk.ct o.made.ops : Nat) : Int), x := k + 1 + 1 + ((Mk.ct o.base.ops : Nat) : Int) + 1 + 1 + 1 + 1 + 1 + 1 + ((Mk.ct o.made.ops : Nat) : Int) + 1, y := k + 1 + 1 + ((Mk.ct o.base.ops : Nat) : Int) + 1 + 1 + 1 + 1 + 1 + 1 + ((Mk.ct o.made.ops : Nat) : Int) + 1 + 1, k := k + 1 + 1 + ((Mk.ct o.base.ops : Nat) : Int) + 1 + 1 + 1 + 1 + 1 + 1 + ((Mk.ct o.made.ops : Nat) : Int) + 1 + 1 + 1 } }, fun o => 1 + 1 + Mk.ct o.base.ops + 1 + 1 + 1 + 1 + 1 + 1 + Mk.ct o.made.ops + 1 + 1 + 1 + 1⟩

def CerPair.mkV (o : CerPair) (k : Int) : CerPair := { base := { pc := o.base.pc, len := o.base.len, ops := Mk.put o.base.ops (k), fin := o.base.fin, x := o.base.x, y := o.base.y, k := o.base.k }, made := { pc := o.made.pc, len := o.made.len, ops := Mk.put o.made.ops (k + ((Mk.ct o.base.ops : Nat) : Int)), fin := o.made.fin, x := o.made.x, y := o.made.y, k := o.made.k } }
def CerPair.ctV (o : CerPair) : Nat := Mk.ct o.base.ops + Mk.ct o.made.ops

instance : Mk InsIns := ⟨fun o k => { op := k, d := k + 1, a := k + 1 + 1, k := k + 1 + 1 + 1 }, fun o => 1 + 1 + 1 + 1⟩

end Go.Proofs.Ytjemadbhpbbhlaa
