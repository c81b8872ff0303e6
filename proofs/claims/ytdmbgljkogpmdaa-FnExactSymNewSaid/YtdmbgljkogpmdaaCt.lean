/-
  How many numbers a value holds, against the lengths of its slices.
-/
import Derived.Test.YtdmbgljkogpmdaaMk
import Derived.Test.YtdmbgljkogpmdaaMarkLib
import Derived.Test.YtdmbgljkogpmdaaTy
namespace Go.Proofs.Ytdmbgljkogpmdaa
open Go.RowKit

set_option linter.unusedVariables false
set_option linter.unusedSimpArgs false
set_option maxRecDepth 100000

/-- As many numbers as its slices' lengths allow. -/
class CtB (α : Type) [Mk α] [Bulk α] : Prop where
  le : ∀ a : α, Mk.ct a ≤ 16 + 16 * Bulk.blk a
instance : CtB Int := ⟨fun _ => by show 1 ≤ _; omega⟩
instance : CtB Bool := ⟨fun _ => by show 1 ≤ _; omega⟩
instance : CtB UInt8 := ⟨fun _ => by show 1 ≤ _; omega⟩
theorem ct_le {α : Type} [Mk α] [Bulk α] [CtB α] (l : List α) : Mk.ct l ≤ 16 * Bulk.blk l := by
  show ctTo l l.length ≤ _
  induction l with
  | nil => simp [ctTo]
  | cons a l ih =>
    have h1 := CtB.le a
    rw [blk_list] at ih ⊢
    simp only [ctTo, List.length_cons, List.map_cons, List.sum_cons]
    omega
instance {α : Type} [Mk α] [Bulk α] [CtB α] : CtB (List α) := ⟨fun l => by have := ct_le l; omega⟩

instance : CtB TrmMono := ⟨fun o => by show 1 + Mk.ct o.atoms ≤ 16 + 16 * (Bulk.blk o.atoms); have h0 := ct_le o.atoms; omega⟩
theorem TrmMono.ctV_le (o : TrmMono) : TrmMono.ctV o ≤ 16 * Bulk.blk o := by show Mk.ct o.atoms ≤ 16 * (Bulk.blk o.atoms); have h0 := ct_le o.atoms; omega

instance : CtB TrmPoly := ⟨fun o => by show Mk.ct o.monos ≤ 16 + 16 * (Bulk.blk o.monos); have h0 := ct_le o.monos; omega⟩
theorem TrmPoly.ctV_le (o : TrmPoly) : TrmPoly.ctV o ≤ 16 * Bulk.blk o := by show Mk.ct o.monos ≤ 16 * (Bulk.blk o.monos); have h0 := ct_le o.monos; omega

instance : CtB TabAtom := ⟨fun o => by show 1 + 1 + Mk.ct o.x.monos + Mk.ct o.y.monos ≤ 16 + 16 * (Bulk.blk o.x.monos + Bulk.blk o.y.monos); have h0 := ct_le o.x.monos; have h1 := ct_le o.y.monos; omega⟩
theorem TabAtom.ctV_le (o : TabAtom) : TabAtom.ctV o ≤ 16 * Bulk.blk o := by show Mk.ct o.x.monos + Mk.ct o.y.monos ≤ 16 * (Bulk.blk o.x.monos + Bulk.blk o.y.monos); have h0 := ct_le o.x.monos; have h1 := ct_le o.y.monos; omega

instance : CtB TabTab := ⟨fun o => by show Mk.ct o.atoms ≤ 16 + 16 * (Bulk.blk o.atoms); have h0 := ct_le o.atoms; omega⟩
theorem TabTab.ctV_le (o : TabTab) : TabTab.ctV o ≤ 16 * Bulk.blk o := by show Mk.ct o.atoms ≤ 16 * (Bulk.blk o.atoms); have h0 := ct_le o.atoms; omega

instance : CtB SymEvent := ⟨fun o => by show 1 + 1 + Mk.ct o.x.monos + Mk.ct o.y.monos + Mk.ct o.regs ≤ 16 + 16 * (Bulk.blk o.x.monos + Bulk.blk o.y.monos + Bulk.blk o.regs); have h0 := ct_le o.x.monos; have h1 := ct_le o.y.monos; have h2 := ct_le o.regs; omega⟩
theorem SymEvent.ctV_le (o : SymEvent) : SymEvent.ctV o ≤ 16 * Bulk.blk o := by show Mk.ct o.x.monos + Mk.ct o.y.monos + Mk.ct o.regs ≤ 16 * (Bulk.blk o.x.monos + Bulk.blk o.y.monos + Bulk.blk o.regs); have h0 := ct_le o.x.monos; have h1 := ct_le o.y.monos; have h2 := ct_le o.regs; omega

instance : CtB SymSym := ⟨fun o => by show Mk.ct o.events + Mk.ct o.regs + 1 + Mk.ct o.x.monos + Mk.ct o.y.monos + 1 ≤ 16 + 16 * (Bulk.blk o.events + Bulk.blk o.regs + Bulk.blk o.x.monos + Bulk.blk o.y.monos); have h0 := ct_le o.events; have h1 := ct_le o.regs; have h2 := ct_le o.x.monos; have h3 := ct_le o.y.monos; omega⟩
theorem SymSym.ctV_le (o : SymSym) : SymSym.ctV o ≤ 16 * Bulk.blk o := by show Mk.ct o.events + Mk.ct o.regs + Mk.ct o.x.monos + Mk.ct o.y.monos ≤ 16 * (Bulk.blk o.events + Bulk.blk o.regs + Bulk.blk o.x.monos + Bulk.blk o.y.monos); have h0 := ct_le o.events; have h1 := ct_le o.regs; have h2 := ct_le o.x.monos; have h3 := ct_le o.y.monos; omega

end Go.Proofs.Ytdmbgljkogpmdaa
