/-
  What a value is that was written over with numbers.
-/
import Derived.Test.YtpneijbjheeobaaTy
import Derived.Test.YtpneijbjheeobaaMarkLib
namespace Go.Proofs.Ytpneijbjheeobaa
open Go.RowKit

set_option linter.unusedVariables false
set_option linter.unusedSimpArgs false
set_option maxRecDepth 100000

instance : Mk IrOp := ⟨fun o k => { kind := k, x := k + 1, y := k + 1 + 1, k := k + 1 + 1 + 1, at_ := k + 1 + 1 + 1 + 1 }, fun o => 1 + 1 + 1 + 1 + 1⟩

instance : Mk IrBlock := ⟨fun o k => { pc := k, len := k + 1, ops := Mk.put o.ops (k + 1 + 1), fin := k + 1 + 1 + ((Mk.ct o.ops : Nat) : Int), x := k + 1 + 1 + ((Mk.ct o.ops : Nat) : Int) + 1, y := k + 1 + 1 + ((Mk.ct o.ops : Nat) : Int) + 1 + 1, k := k + 1 + 1 + ((Mk.ct o.ops : Nat) : Int) + 1 + 1 + 1 }, fun o => 1 + 1 + Mk.ct o.ops + 1 + 1 + 1 + 1⟩

def IrBlock.mkV (o : IrBlock) (k : Int) : IrBlock := { pc := o.pc, len := o.len, ops := Mk.put o.ops (k), fin := o.fin, x := o.x, y := o.y, k := o.k }
def IrBlock.ctV (o : IrBlock) : Nat := Mk.ct o.ops

instance : Mk CacEntry := ⟨fun o k => { words := Mk.put o.words (k), block := { pc := k + ((Mk.ct o.words : Nat) : Int), len := k + ((Mk.ct o.words : Nat) : Int) + 1, ops := Mk.put o.block.ops (k + ((Mk.ct o.words : Nat) : Int) + 1 + 1), fin := k + ((Mk.ct o.words : Nat) : Int) + 1 + 1 + ((Mk.ct o.block.ops : Nat) : Int), x := k + ((Mk.ct o.words : Nat) : Int) + 1 + 1 + ((Mk.ct o.block.ops : Nat) : Int) + 1, y := k + ((Mk.ct o.words : Nat) : Int) + 1 + 1 + ((Mk.ct o.block.ops : Nat) : Int) + 1 + 1, k := k + ((Mk.ct o.words : Nat) : Int) + 1 + 1 + ((Mk.ct o.block.ops : Nat) : Int) + 1 + 1 + 1 } }, fun o => Mk.ct o.words + 1 + 1 + Mk.ct o.block.ops + 1 + 1 + 1 + 1⟩

def CacEntry.mkV (o : CacEntry) (k : Int) : CacEntry := { words := Mk.put o.words (k), block := { pc := o.block.pc, len := o.block.len, ops := Mk.put o.block.ops (k + ((Mk.ct o.words : Nat) : Int)), fin := o.block.fin, x := o.block.x, y := o.block.y, k := o.block.k } }
def CacEntry.ctV (o : CacEntry) : Nat := Mk.ct o.words + Mk.ct o.block.ops

instance : Mk CerPair := ⟨fun o k => { base := { pc := k, len := k + 1, ops := Mk.put o.base.ops (k + 1 + 1), fin := k + 1 + 1 + ((Mk.ct o.base.ops : Nat) : Int), x := k + 1 + 1 + ((Mk.ct o.base.ops : Nat) : Int) + 1, y := k + 1 + 1 + ((Mk.ct o.base.ops : Nat) : Int) + 1 + 1, k := k + 1 + 1 + ((Mk.ct o.base.ops : Nat) : Int) + 1 + 1 + 1 }, made := { pc := k + 1 + 1 + ((Mk.ct o.base.ops : Nat) : Int) + 1 + 1 + 1 + 1, len := k + 1 + 1 + ((Mk.ct o.base.ops : Nat) : Int) + 1 + 1 + 1 + 1 + 1, ops := Mk.put o.made.ops (k + 1 + 1 + ((Mk.ct o.base.ops : Nat) : Int) + 1 + 1 + 1 + 1 + 1 + 1), fin := k + 1 + 1 + ((Mk.ct o.base.ops : Nat) : Int) + 1 + 1 + 1 + 1 + 1 + 1 + ((Mk.ct o.made.ops : Nat) : Int), x := k + 1 + 1 + ((Mk.ct o.base.ops : Nat) : Int) + 1 + 1 + 1 + 1 + 1 + 1 + ((Mk.ct o.made.ops : Nat) : Int) + 1, y := k + 1 + 1 + ((Mk.ct o.base.ops : Nat) : Int) + 1 + 1 + 1 + 1 + 1 + 1 + ((Mk.ct o.made.ops : Nat) : Int) + 1 + 1, k := k + 1 + 1 + ((Mk.ct o.base.ops : Nat) : Int) + 1 + 1 + 1 + 1 + 1 + 1 + ((Mk.ct o.made.ops : Nat) : Int) + 1 + 1 + 1 } }, fun o => 1 + 1 + Mk.ct o.base.ops + 1 + 1 + 1 + 1 + 1 + 1 + Mk.ct o.made.ops + 1 + 1 + 1 + 1⟩

def CerPair.mkV (o : CerPair) (k : Int) : CerPair := { base := { pc := o.base.pc, len := o.base.len, ops := Mk.put o.base.ops (k), fin := o.base.fin, x := o.base.x, y := o.base.y, k := o.base.k }, made := { pc := o.made.pc, len := o.made.len, ops := Mk.put o.made.ops (k + ((Mk.ct o.base.ops : Nat) : Int)), fin := o.made.fin, x := o.made.x, y := o.made.y, k := o.made.k } }
def CerPair.ctV (o : CerPair) : Nat := Mk.ct o.base.ops + Mk.ct o.made.ops

instance : Mk MchMach := ⟨fun o k => { regs := Mk.put o.regs (k), pc := k + ((Mk.ct o.regs : Nat) : Int), mem := Mk.put o.mem (k + ((Mk.ct o.regs : Nat) : Int) + 1), save := k + ((Mk.ct o.regs : Nat) : Int) + 1 + ((Mk.ct o.mem : Nat) : Int), lets := (k + ((Mk.ct o.regs : Nat) : Int) + 1 + ((Mk.ct o.mem : Nat) : Int) + 1) % 3 == 0, waits := (k + ((Mk.ct o.regs : Nat) : Int) + 1 + ((Mk.ct o.mem : Nat) : Int) + 1 + 1) % 3 == 0, halt := k + ((Mk.ct o.regs : Nat) : Int) + 1 + ((Mk.ct o.mem : Nat) : Int) + 1 + 1 + 1, ins := Mk.put o.ins (k + ((Mk.ct o.regs : Nat) : Int) + 1 + ((Mk.ct o.mem : Nat) : Int) + 1 + 1 + 1 + 1), outs := Mk.put o.outs (k + ((Mk.ct o.regs : Nat) : Int) + 1 + ((Mk.ct o.mem : Nat) : Int) + 1 + 1 + 1 + 1 + ((Mk.ct o.ins : Nat) : Int)), count := k + ((Mk.ct o.regs : Nat) : Int) + 1 + ((Mk.ct o.mem : Nat) : Int) + 1 + 1 + 1 + 1 + ((Mk.ct o.ins : Nat) : Int) + ((Mk.ct o.outs : Nat) : Int) }, fun o => Mk.ct o.regs + 1 + Mk.ct o.mem + 1 + 1 + 1 + 1 + Mk.ct o.ins + Mk.ct o.outs + 1⟩

def MchMach.mkV (o : MchMach) (k : Int) : MchMach := { regs := Mk.put o.regs (k), pc := o.pc, mem := Mk.put o.mem (k + ((Mk.ct o.regs : Nat) : Int)), save := o.save, lets := o.lets, waits := o.waits, halt := o.halt, ins := Mk.put o.ins (k + ((Mk.ct o.regs : Nat) : Int) + ((Mk.ct o.mem : Nat) : Int)), outs := Mk.put o.outs (k + ((Mk.ct o.regs : Nat) : Int) + ((Mk.ct o.mem : Nat) : Int) + ((Mk.ct o.ins : Nat) : Int)), count := o.count }
def MchMach.ctV (o : MchMach) : Nat := Mk.ct o.regs + Mk.ct o.mem + Mk.ct o.ins + Mk.ct o.outs

instance : Mk EngEng := ⟨fun o k => { mach := { regs := Mk.put o.mach.regs (k), pc := k + ((Mk.ct o.mach.regs : Nat) : Int), mem := Mk.put o.mach.mem (k + ((Mk.ct o.mach.regs : Nat) : Int) + 1), save := k + ((Mk.ct o.mach.regs : Nat) : Int) + 1 + ((Mk.ct o.mach.mem : Nat) : Int), lets := (k + ((Mk.ct o.mach.regs : Nat) : Int) + 1 + ((Mk.ct o.mach.mem : Nat) : Int) + 1) % 3 == 0, waits := (k + ((Mk.ct o.mach.regs : Nat) : Int) + 1 + ((Mk.ct o.mach.mem : Nat) : Int) + 1 + 1) % 3 == 0, halt := k + ((Mk.ct o.mach.regs : Nat) : Int) + 1 + ((Mk.ct o.mach.mem : Nat) : Int) + 1 + 1 + 1, ins := Mk.put o.mach.ins (k + ((Mk.ct o.mach.regs : Nat) : Int) + 1 + ((Mk.ct o.mach.mem : Nat) : Int) + 1 + 1 + 1 + 1), outs := Mk.put o.mach.outs (k + ((Mk.ct o.mach.regs : Nat) : Int) + 1 + ((Mk.ct o.mach.mem : Nat) : Int) + 1 + 1 + 1 + 1 + ((Mk.ct o.mach.ins : Nat) : Int)), count := k + ((Mk.ct o.mach.regs : Nat) : Int) + 1 + ((Mk.ct o.mach.mem : Nat) : Int) + 1 + 1 + 1 + 1 + ((Mk.ct o.mach.ins : Nat) : Int) + ((Mk.ct o.mach.outs : Nat) : Int) }, cache := Mk.put o.cache (k + ((Mk.ct o.mach.regs : Nat) : Int) + 1 + ((Mk.ct o.mach.mem : Nat) : Int) + 1 + 1 + 1 + 1 + ((Mk.ct o.mach.ins : Nat) : Int) + ((Mk.ct o.mach.outs : Nat) : Int) + 1), certs := Mk.put o.certs (k + ((Mk.ct o.mach.regs : Nat) : Int) + 1 + ((Mk.ct o.mach.mem : Nat) : Int) + 1 + 1 + 1 + 1 + ((Mk.ct o.mach.ins : Nat) : Int) + ((Mk.ct o.mach.outs : Nat) : Int) + 1 + ((Mk.ct o.cache : Nat) : Int)) }, fun o => Mk.ct o.mach.regs + 1 + Mk.ct o.mach.mem + 1 + 1 + 1 + 1 + Mk.ct o.mach.ins + Mk.ct o.mach.outs + 1 + Mk.ct o.cache + Mk.ct o.certs⟩

def EngEng.mkV (o : EngEng) (k : Int) : EngEng := { mach := { regs := Mk.put o.mach.regs (k), pc := o.mach.pc, mem := Mk.put o.mach.mem (k + ((Mk.ct o.mach.regs : Nat) : Int)), save := o.mach.save, lets := o.mach.lets, waits := o.mach.waits, halt := o.mach.halt, ins := Mk.put o.mach.ins (k + ((Mk.ct o.mach.regs : Nat) : Int) + ((Mk.ct o.mach.mem : Nat) : Int)), outs := Mk.put o.mach.outs (k + ((Mk.ct o.mach.regs : Nat) : Int) + ((Mk.ct o.mach.mem : Nat) : Int) + ((Mk.ct o.mach.ins : Nat) : Int)), count := o.mach.count }, cache := Mk.put o.cache (k + ((Mk.ct o.mach.regs : Nat) : Int) + ((Mk.ct o.mach.mem : Nat) : Int) + ((Mk.ct o.mach.ins : Nat) : Int) + ((Mk.ct o.mach.outs : Nat) : Int)), certs := Mk.put o.certs (k + ((Mk.ct o.mach.regs : Nat) : Int) + ((Mk.ct o.mach.mem : Nat) : Int) + ((Mk.ct o.mach.ins : Nat) : Int) + ((Mk.ct o.mach.outs : Nat) : Int) + ((Mk.ct o.cache : Nat) : Int)) }
def EngEng.ctV (o : EngEng) : Nat := Mk.ct o.mach.regs + Mk.ct o.mach.mem + Mk.ct o.mach.ins + Mk.ct o.mach.outs + Mk.ct o.cache + Mk.ct o.certs

instance : Mk TrmMono := ⟨fun o k => { coef := k, atoms := Mk.put o.atoms (k + 1) }, fun o => 1 + Mk.ct o.atoms⟩

def TrmMono.mkV (o : TrmMono) (k : Int) : TrmMono := { coef := o.coef, atoms := Mk.put o.atoms (k) }
def TrmMono.ctV (o : TrmMono) : Nat := Mk.ct o.atoms

instance : Mk TrmPoly := ⟨fun o k => { monos := Mk.put o.monos (k) }, fun o => Mk.ct o.monos⟩

def TrmPoly.mkV (o : TrmPoly) (k : Int) : TrmPoly := { monos := Mk.put o.monos (k) }
def TrmPoly.ctV (o : TrmPoly) : Nat := Mk.ct o.monos

instance : Mk TabAtom := ⟨fun o k => { kind := k, k := k + 1, x := { monos := Mk.put o.x.monos (k + 1 + 1) }, y := { monos := Mk.put o.y.monos (k + 1 + 1 + ((Mk.ct o.x.monos : Nat) : Int)) } }, fun o => 1 + 1 + Mk.ct o.x.monos + Mk.ct o.y.monos⟩

def TabAtom.mkV (o : TabAtom) (k : Int) : TabAtom := { kind := o.kind, k := o.k, x := { monos := Mk.put o.x.monos (k) }, y := { monos := Mk.put o.y.monos (k + ((Mk.ct o.x.monos : Nat) : Int)) } }
def TabAtom.ctV (o : TabAtom) : Nat := Mk.ct o.x.monos + Mk.ct o.y.monos

instance : Mk TabTab := ⟨fun o k => { atoms := Mk.put o.atoms (k) }, fun o => Mk.ct o.atoms⟩

def TabTab.mkV (o : TabTab) (k : Int) : TabTab := { atoms := Mk.put o.atoms (k) }
def TabTab.ctV (o : TabTab) : Nat := Mk.ct o.atoms

instance : Mk SymEvent := ⟨fun o k => { kind := k, at_ := k + 1, x := { monos := Mk.put o.x.monos (k + 1 + 1) }, y := { monos := Mk.put o.y.monos (k + 1 + 1 + ((Mk.ct o.x.monos : Nat) : Int)) }, regs := Mk.put o.regs (k + 1 + 1 + ((Mk.ct o.x.monos : Nat) : Int) + ((Mk.ct o.y.monos : Nat) : Int)) }, fun o => 1 + 1 + Mk.ct o.x.monos + Mk.ct o.y.monos + Mk.ct o.regs⟩

def SymEvent.mkV (o : SymEvent) (k : Int) : SymEvent := { kind := o.kind, at_ := o.at_, x := { monos := Mk.put o.x.monos (k) }, y := { monos := Mk.put o.y.monos (k + ((Mk.ct o.x.monos : Nat) : Int)) }, regs := Mk.put o.regs (k + ((Mk.ct o.x.monos : Nat) : Int) + ((Mk.ct o.y.monos : Nat) : Int)) }
def SymEvent.ctV (o : SymEvent) : Nat := Mk.ct o.x.monos + Mk.ct o.y.monos + Mk.ct o.regs

instance : Mk SymSym := ⟨fun o k => { events := Mk.put o.events (k), regs := Mk.put o.regs (k + ((Mk.ct o.events : Nat) : Int)), fin := k + ((Mk.ct o.events : Nat) : Int) + ((Mk.ct o.regs : Nat) : Int), x := { monos := Mk.put o.x.monos (k + ((Mk.ct o.events : Nat) : Int) + ((Mk.ct o.regs : Nat) : Int) + 1) }, y := { monos := Mk.put o.y.monos (k + ((Mk.ct o.events : Nat) : Int) + ((Mk.ct o.regs : Nat) : Int) + 1 + ((Mk.ct o.x.monos : Nat) : Int)) }, k := k + ((Mk.ct o.events : Nat) : Int) + ((Mk.ct o.regs : Nat) : Int) + 1 + ((Mk.ct o.x.monos : Nat) : Int) + ((Mk.ct o.y.monos : Nat) : Int) }, fun o => Mk.ct o.events + Mk.ct o.regs + 1 + Mk.ct o.x.monos + Mk.ct o.y.monos + 1⟩

def SymSym.mkV (o : SymSym) (k : Int) : SymSym := { events := Mk.put o.events (k), regs := Mk.put o.regs (k + ((Mk.ct o.events : Nat) : Int)), fin := o.fin, x := { monos := Mk.put o.x.monos (k + ((Mk.ct o.events : Nat) : Int) + ((Mk.ct o.regs : Nat) : Int)) }, y := { monos := Mk.put o.y.monos (k + ((Mk.ct o.events : Nat) : Int) + ((Mk.ct o.regs : Nat) : Int) + ((Mk.ct o.x.monos : Nat) : Int)) }, k := o.k }
def SymSym.ctV (o : SymSym) : Nat := Mk.ct o.events + Mk.ct o.regs + Mk.ct o.x.monos + Mk.ct o.y.monos

end Go.Proofs.Ytpneijbjheeobaa
