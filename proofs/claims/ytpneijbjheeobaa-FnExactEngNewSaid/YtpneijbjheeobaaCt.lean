/-
  How many numbers a value holds, against the lengths of its slices.
-/
import Derived.Test.YtpneijbjheeobaaMk
import Derived.Test.YtpneijbjheeobaaMarkLib
import Derived.Test.YtpneijbjheeobaaTy
namespace Go.Proofs.Ytpneijbjheeobaa
open Go.RowKit

set_option linter.unusedVariables false
set_option linter.unusedSimpArgs false
set_option maxRecDepth 100000

/-- As many numbers as its slices' lengths allow. -/
class CtB (α : Type) [Mk α] [Bulk α] : Prop where
  le : ∀ a : α, Mk.ct a ≤ 16 + 16 * Bulk.blk a
instance : CtB Int := ⟨fun _ => by show 1 ≤ _; omega⟩
instance : CtB Bool := ⟨fun _ => by show 1 ≤ _; omega⟩
instance : CtB UInt8 := ⟨fun _ => by show 1 ≤ _; omega⟩
theorem ct_le {α : Type} [Mk α] [Bulk α] [CtB α] (l : List α) : Mk.ct l ≤ 16 * Bulk.blk l := by
  show ctTo l l.length ≤ _
  induction l with
  | nil => simp [ctTo]
  | cons a l ih =>
    have h1 := CtB.le a
    rw [blk_list] at ih ⊢
    simp only [ctTo, List.length_cons, List.map_cons, List.sum_cons]
    omega
instance {α : Type} [Mk α] [Bulk α] [CtB α] : CtB (List α) := ⟨fun l => by have := ct_le l; omega⟩

instance : CtB IrOp := ⟨fun o => by show 1 + 1 + 1 + 1 + 1 ≤ 16 + 16 * (0); omega⟩

instance : CtB IrBlock := ⟨fun o => by show 1 + 1 + Mk.ct o.ops + 1 + 1 + 1 + 1 ≤ 16 + 16 * (Bulk.blk o.ops); have h0 := ct_le o.ops; omega⟩
theorem IrBlock.ctV_le (o : IrBlock) : IrBlock.ctV o ≤ 16 * Bulk.blk o := by show Mk.ct o.ops ≤ 16 * (Bulk.blk o.ops); have h0 := ct_le o.ops; omega

instance : CtB CacEntry := ⟨fun o => by show Mk.ct o.words + 1 + 1 + Mk.ct o.block.ops + 1 + 1 + 1 + 1 ≤ 16 + 16 * (Bulk.blk o.words + Bulk.blk o.block.ops); have h0 := ct_le o.words; have h1 := ct_le o.block.ops; omega⟩
theorem CacEntry.ctV_le (o : CacEntry) : CacEntry.ctV o ≤ 16 * Bulk.blk o := by show Mk.ct o.words + Mk.ct o.block.ops ≤ 16 * (Bulk.blk o.words + Bulk.blk o.block.ops); have h0 := ct_le o.words; have h1 := ct_le o.block.ops; omega

instance : CtB CerPair := ⟨fun o => by show 1 + 1 + Mk.ct o.base.ops + 1 + 1 + 1 + 1 + 1 + 1 + Mk.ct o.made.ops + 1 + 1 + 1 + 1 ≤ 16 + 16 * (Bulk.blk o.base.ops + Bulk.blk o.made.ops); have h0 := ct_le o.base.ops; have h1 := ct_le o.made.ops; omega⟩
theorem CerPair.ctV_le (o : CerPair) : CerPair.ctV o ≤ 16 * Bulk.blk o := by show Mk.ct o.base.ops + Mk.ct o.made.ops ≤ 16 * (Bulk.blk o.base.ops + Bulk.blk o.made.ops); have h0 := ct_le o.base.ops; have h1 := ct_le o.made.ops; omega

instance : CtB MchMach := ⟨fun o => by show Mk.ct o.regs + 1 + Mk.ct o.mem + 1 + 1 + 1 + 1 + Mk.ct o.ins + Mk.ct o.outs + 1 ≤ 16 + 16 * (Bulk.blk o.regs + Bulk.blk o.mem + Bulk.blk o.ins + Bulk.blk o.outs); have h0 := ct_le o.regs; have h1 := ct_le o.mem; have h2 := ct_le o.ins; have h3 := ct_le o.outs; omega⟩
theorem MchMach.ctV_le (o : MchMach) : MchMach.ctV o ≤ 16 * Bulk.blk o := by show Mk.ct o.regs + Mk.ct o.mem + Mk.ct o.ins + Mk.ct o.outs ≤ 16 * (Bulk.blk o.regs + Bulk.blk o.mem + Bulk.blk o.ins + Bulk.blk o.outs); have h0 := ct_le o.regs; have h1 := ct_le o.mem; have h2 := ct_le o.ins; have h3 := ct_le o.outs; omega

instance : CtB EngEng := ⟨fun o => by show Mk.ct o.mach.regs + 1 + Mk.ct o.mach.mem + 1 + 1 + 1 + 1 + Mk.ct o.mach.ins + Mk.ct o.mach.outs + 1 + Mk.ct o.cache + Mk.ct o.certs ≤ 16 + 16 * (Bulk.blk o.mach.regs + Bulk.blk o.mach.mem + Bulk.blk o.mach.ins + Bulk.blk o.mach.outs + Bulk.blk o.cache + Bulk.blk o.certs); have h0 := ct_le o.mach.regs; have h1 := ct_le o.mach.mem; have h2 := ct_le o.mach.ins; have h3 := ct_le o.mach.outs; have h4 := ct_le o.cache; have h5 := ct_le o.certs; omega⟩
theorem EngEng.ctV_le (o : EngEng) : EngEng.ctV o ≤ 16 * Bulk.blk o := by show Mk.ct o.mach.regs + Mk.ct o.mach.mem + Mk.ct o.mach.ins + Mk.ct o.mach.outs + Mk.ct o.cache + Mk.ct o.certs ≤ 16 * (Bulk.blk o.mach.regs + Bulk.blk o.mach.mem + Bulk.blk o.mach.ins + Bulk.blk o.mach.outs + Bulk.blk o.cache + Bulk.blk o.certs); have h0 := ct_le o.mach.regs; have h1 := ct_le o.mach.mem; have h2 := ct_le o.mach.ins; have h3 := ct_le o.mach.outs; have h4 := ct_le o.cache; have h5 := ct_le o.certs; omega

instance : CtB TrmMono := ⟨fun o => by show 1 + Mk.ct o.atoms ≤ 16 + 16 * (Bulk.blk o.atoms); have h0 := ct_le o.atoms; omega⟩
theorem TrmMono.ctV_le (o : TrmMono) : TrmMono.ctV o ≤ 16 * Bulk.blk o := by show Mk.ct o.atoms ≤ 16 * (Bulk.blk o.atoms); have h0 := ct_le o.atoms; omega

instance : CtB TrmPoly := ⟨fun o => by show Mk.ct o.monos ≤ 16 + 16 * (Bulk.blk o.monos); have h0 := ct_le o.monos; omega⟩
theorem TrmPoly.ctV_le (o : TrmPoly) : TrmPoly.ctV o ≤ 16 * Bulk.blk o := by show Mk.ct o.monos ≤ 16 * (Bulk.blk o.monos); have h0 := ct_le o.monos; omega

instance : CtB TabAtom := ⟨fun o => by show 1 + 1 + Mk.ct o.x.monos + Mk.ct o.y.monos ≤ 16 + 16 * (Bulk.blk o.x.monos + Bulk.blk o.y.monos); have h0 := ct_le o.x.monos; have h1 := ct_le o.y.monos; omega⟩
theorem TabAtom.ctV_le (o : TabAtom) : TabAtom.ctV o ≤ 16 * Bulk.blk o := by show Mk.ct o.x.monos + Mk.ct o.y.monos ≤ 16 * (Bulk.blk o.x.monos + Bulk.blk o.y.monos); have h0 := ct_le o.x.monos; have h1 := ct_le o.y.monos; omega

instance : CtB TabTab := ⟨fun o => by show Mk.ct o.atoms ≤ 16 + 16 * (Bulk.blk o.atoms); have h0 := ct_le o.atoms; omega⟩
theorem TabTab.ctV_le (o : TabTab) : TabTab.ctV o ≤ 16 * Bulk.blk o := by show Mk.ct o.atoms ≤ 16 * (Bulk.blk o.atoms); have h0 := ct_le o.atoms; omega

instance : CtB SymEvent := ⟨fun o => by show 1 + 1 + Mk.ct o.x.monos + Mk.ct o.y.monos + Mk.ct o.regs ≤ 16 + 16 * (Bulk.blk o.x.monos + Bulk.blk o.y.monos + Bulk.blk o.regs); have h0 := ct_le o.x.monos; have h1 := ct_le o.y.monos; have h2 := ct_le o.regs; omega⟩
theorem SymEvent.ctV_le (o : SymEvent) : SymEvent.ctV o ≤ 16 * Bulk.blk o := by show Mk.ct o.x.monos + Mk.ct o.y.monos + Mk.ct o.regs ≤ 16 * (Bulk.blk o.x.monos + Bulk.blk o.y.monos + Bulk.blk o.regs); have h0 := ct_le o.x.monos; have h1 := ct_le o.y.monos; have h2 := ct_le o.regs; omega

instance : CtB SymSym := ⟨fun o => by show Mk.ct o.events + Mk.ct o.regs + 1 + Mk.ct o.x.monos + Mk.ct o.y.monos + 1 ≤ 16 + 16 * (Bulk.blk o.events + Bulk.blk o.regs + Bulk.blk o.x.monos + Bulk.blk o.y.monos); have h0 := ct_le o.events; have h1 := ct_le o.regs; have h2 := ct_le o.x.monos; have h3 := ct_le o.y.monos; omega⟩
theorem SymSym.ctV_le (o : SymSym) : SymSym.ctV o ≤ 16 * Bulk.blk o := by show Mk.ct o.events + Mk.ct o.regs + Mk.ct o.x.monos + Mk.ct o.y.monos ≤ 16 * (Bulk.blk o.events + Bulk.blk o.regs + Bulk.blk o.x.monos + Bulk.blk o.y.monos); have h0 := ct_le o.events; have h1 := ct_le o.regs; have h2 := ct_le o.x.monos; have h3 := ct_le o.y.monos; omega

end Go.Proofs.Ytpneijbjheeobaa
