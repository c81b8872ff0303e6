/-
  What a value is that was written over with numbers.
-/
import Derived.Test.YtdmbgljkogpmdaaTy
import Derived.Test.YtdmbgljkogpmdaaMarkLib
namespace Go.Proofs.Ytdmbgljkogpmdaa
open Go.RowKit

set_option linter.unusedVariables false
set_option linter.unusedSimpArgs false
set_option maxRecDepth 100000

instance : Mk TrmMono := ⟨fun o k => { coef := k, atoms := Mk.put o.atoms (k + 1) }, fun o => 1 + Mk.ct o.atoms⟩

def TrmMono.mkV (o : TrmMono) (k : Int) : TrmMono := { coef := o.coef, atoms := Mk.put o.atoms (k) }
def TrmMono.ctV (o : TrmMono) : Nat := Mk.ct o.atoms

instance : Mk TrmPoly := ⟨fun o k => { monos := Mk.put o.monos (k) }, fun o => Mk.ct o.monos⟩

def TrmPoly.mkV (o : TrmPoly) (k : Int) : TrmPoly := { monos := Mk.put o.monos (k) }
def TrmPoly.ctV (o : TrmPoly) : Nat := Mk.ct o.monos

instance : Mk TabAtom := ⟨fun o k => { kind := k, k := k + 1, x := { monos := Mk.put o.x.monos (k + 1 + 1) }, y := { monos := Mk.put o.y.monos (k + 1 + 1 + ((Mk.ct o.x.monos : Nat) : Int)) } }, fun o => 1 + 1 + Mk.ct o.x.monos + Mk.ct o.y.monos⟩

def TabAtom.mkV (o : TabAtom) (k : Int) : TabAtom := { kind := o.kind, k := o.k, x := { monos := Mk.put o.x.monos (k) }, y := { monos := Mk.put o.y.monos (k + ((Mk.ct o.x.monos : Nat) : Int)) } }
def TabAtom.ctV (o : TabAtom) : Nat := Mk.ct o.x.monos + Mk.ct o.y.monos

instance : Mk TabTab := ⟨fun o k => { atoms := Mk.put o.atoms (k) }, fun o => Mk.ct o.atoms⟩

def TabTab.mkV (o : TabTab) (k : Int) : TabTab := { atoms := Mk.put o.atoms (k) }
def TabTab.ctV (o : TabTab) : Nat := Mk.ct o.atoms

instance : Mk SymEvent := ⟨fun o k => { kind := k, at_ := k + 1, x := { monos := Mk.put o.x.monos (k + 1 + 1) }, y := { monos := Mk.put o.y.monos (k + 1 + 1 + ((Mk.ct o.x.monos : Nat) : Int)) }, regs := Mk.put o.regs (k + 1 + 1 + ((Mk.ct o.x.monos : Nat) : Int) + ((Mk.ct o.y.monos : Nat) : Int)) }, fun o => 1 + 1 + Mk.ct o.x.monos + Mk.ct o.y.monos + Mk.ct o.regs⟩

def SymEvent.mkV (o : SymEvent) (k : Int) : SymEvent := { kind := o.kind, at_ := o.at_, x := { monos := Mk.put o.x.monos (k) }, y := { monos := Mk.put o.y.monos (k + ((Mk.ct o.x.monos : Nat) : Int)) }, regs := Mk.put o.regs (k + ((Mk.ct o.x.monos : Nat) : Int) + ((Mk.ct o.y.monos : Nat) : Int)) }
def SymEvent.ctV (o : SymEvent) : Nat := Mk.ct o.x.monos + Mk.ct o.y.monos + Mk.ct o.regs

instance : Mk SymSym := ⟨fun o k => { events := Mk.put o.events (k), regs := Mk.put o.regs (k + ((Mk.ct o.events : Nat) : Int)), fin := k + ((Mk.ct o.events : Nat) : Int) + ((Mk.ct o.regs : Nat) : Int), x := { monos := Mk.put o.x.monos (k + ((Mk.ct o.events : Nat) : Int) + ((Mk.ct o.regs : Nat) : Int) + 1) }, y := { monos := Mk.put o.y.monos (k + ((Mk.ct o.events : Nat) : Int) + ((Mk.ct o.regs : Nat) : Int) + 1 + ((Mk.ct o.x.monos : Nat) : Int)) }, k := k + ((Mk.ct o.events : Nat) : Int) + ((Mk.ct o.regs : Nat) : Int) + 1 + ((Mk.ct o.x.monos : Nat) : Int) + ((Mk.ct o.y.monos : Nat) : Int) }, fun o => Mk.ct o.events + Mk.ct o.regs + 1 + Mk.ct o.x.monos + Mk.ct o.y.monos + 1⟩

def SymSym.mkV (o : SymSym) (k : Int) : SymSym := { events := Mk.put o.events (k), regs := Mk.put o.regs (k + ((Mk.ct o.events : Nat) : Int)), fin := o.fin, x := { monos := Mk.put o.x.monos (k + ((Mk.ct o.events : Nat) : Int) + ((Mk.ct o.regs : Nat) : Int)) }, y := { monos := Mk.put o.y.monos (k + ((Mk.ct o.events : Nat) : Int) + ((Mk.ct o.regs : Nat) : Int) + ((Mk.ct o.x.monos : Nat) : Int)) }, k := o.k }
def SymSym.ctV (o : SymSym) : Nat := Mk.ct o.events + Mk.ct o.regs + Mk.ct o.x.monos + Mk.ct o.y.monos

end Go.Proofs.Ytdmbgljkogpmdaa
