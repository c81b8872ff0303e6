/-
  What the arguments of the laws can be read as: each type of theirs reads as a Lean type.
-/
import Derived.Test.YteaacelfnkiboaaRows
import Derived.Test.YteaacelfnkiboaaTy
import Derived.Test.YteaacelfnkiboaaRead
namespace Go.Proofs.Yteaacelfnkiboaa
open Go.RowKit
open Go.ChangeShapes Go.WideShapes
set_option linter.unusedVariables false
set_option linter.unusedSimpArgs false
set_option maxRecDepth 100000

theorem rd_Int : Rd Try.prog 3 Int := Rd.int Try.underlying3 (by kernel_rfl)

theorem rd_Bool : Rd Try.prog 4 Bool := Rd.bool Try.underlying4 (by kernel_rfl)

theorem rd_UInt8 : Rd Try.prog 5 UInt8 := Rd.byte Try.underlying5 (by kernel_rfl)

theorem rd_IrOp : Rd Try.prog 110 IrOp := by
  refine ⟨by kernel_rfl, by decide, ?_⟩
  intro H enc w base spare held fuel cs x h
  obtain ⟨xs, n, -, -, hlen, hxl, hf⟩ := DataW.trod_struct Try.underlying110 h
  have hxl : xs.length = 5 := hxl
  have hcs : cs.length = 5 := hlen.trans (by kernel_rfl)
  match cs, hcs with
  | [c0, c1, c2, c3, c4], _ =>
  obtain ⟨a0, r0⟩ := rd_Int.2.2 enc w base spare held n _ _ ((hf 0 _ rfl).trans (List.getElem?_eq_getElem (by omega)))
  have r0 : Rep.rep w (Old w) (([c0, c1, c2, c3, c4].drop 0).take (Try.prog.cellsOf 3)) a0 := r0
  rw [rd_Int.1] at r0
  have r0 : Rep.rep w (Old w) [c0] a0 := r0
  obtain ⟨e0, k0⟩ := r0
  obtain ⟨a1, r1⟩ := rd_Int.2.2 enc w base spare held n _ _ ((hf 1 _ rfl).trans (List.getElem?_eq_getElem (by omega)))
  have r1 : Rep.rep w (Old w) (([c0, c1, c2, c3, c4].drop 1).take (Try.prog.cellsOf 3)) a1 := r1
  rw [rd_Int.1] at r1
  have r1 : Rep.rep w (Old w) [c1] a1 := r1
  obtain ⟨e1, k1⟩ := r1
  obtain ⟨a2, r2⟩ := rd_Int.2.2 enc w base spare held n _ _ ((hf 2 _ rfl).trans (List.getElem?_eq_getElem (by omega)))
  have r2 : Rep.rep w (Old w) (([c0, c1, c2, c3, c4].drop 2).take (Try.prog.cellsOf 3)) a2 := r2
  rw [rd_Int.1] at r2
  have r2 : Rep.rep w (Old w) [c2] a2 := r2
  obtain ⟨e2, k2⟩ := r2
  obtain ⟨a3, r3⟩ := rd_Int.2.2 enc w base spare held n _ _ ((hf 3 _ rfl).trans (List.getElem?_eq_getElem (by omega)))
  have r3 : Rep.rep w (Old w) (([c0, c1, c2, c3, c4].drop 3).take (Try.prog.cellsOf 3)) a3 := r3
  rw [rd_Int.1] at r3
  have r3 : Rep.rep w (Old w) [c3] a3 := r3
  obtain ⟨e3, k3⟩ := r3
  obtain ⟨a4, r4⟩ := rd_Int.2.2 enc w base spare held n _ _ ((hf 4 _ rfl).trans (List.getElem?_eq_getElem (by omega)))
  have r4 : Rep.rep w (Old w) (([c0, c1, c2, c3, c4].drop 4).take (Try.prog.cellsOf 3)) a4 := r4
  rw [rd_Int.1] at r4
  have r4 : Rep.rep w (Old w) [c4] a4 := r4
  obtain ⟨e4, k4⟩ := r4
  exact ⟨⟨a0, a1, a2, a3, a4⟩, by simp at e0 e1 e2 e3 e4; simp [*], ⟨k0, k1, k2, k3, k4⟩⟩

theorem rd_ListIrOp : Rd Try.prog 38 (List IrOp) := Rd.slice Try.underlying38 (by kernel_rfl) rd_IrOp

theorem rd_IrBlock : Rd Try.prog 40 IrBlock := by
  refine ⟨by kernel_rfl, by decide, ?_⟩
  intro H enc w base spare held fuel cs x h
  obtain ⟨xs, n, -, -, hlen, hxl, hf⟩ := DataW.trod_struct Try.underlying40 h
  have hxl : xs.length = 7 := hxl
  have hcs : cs.length = 7 := hlen.trans (by kernel_rfl)
  match cs, hcs with
  | [c0, c1, c2, c3, c4, c5, c6], _ =>
  obtain ⟨a0, r0⟩ := rd_Int.2.2 enc w base spare held n _ _ ((hf 0 _ rfl).trans (List.getElem?_eq_getElem (by omega)))
  have r0 : Rep.rep w (Old w) (([c0, c1, c2, c3, c4, c5, c6].drop 0).take (Try.prog.cellsOf 3)) a0 := r0
  rw [rd_Int.1] at r0
  have r0 : Rep.rep w (Old w) [c0] a0 := r0
  obtain ⟨e0, k0⟩ := r0
  obtain ⟨a1, r1⟩ := rd_Int.2.2 enc w base spare held n _ _ ((hf 1 _ rfl).trans (List.getElem?_eq_getElem (by omega)))
  have r1 : Rep.rep w (Old w) (([c0, c1, c2, c3, c4, c5, c6].drop 1).take (Try.prog.cellsOf 3)) a1 := r1
  rw [rd_Int.1] at r1
  have r1 : Rep.rep w (Old w) [c1] a1 := r1
  obtain ⟨e1, k1⟩ := r1
  obtain ⟨a2, r2⟩ := rd_ListIrOp.2.2 enc w base spare held n _ _ ((hf 2 _ rfl).trans (List.getElem?_eq_getElem (by omega)))
  have r2 : Rep.rep w (Old w) (([c0, c1, c2, c3, c4, c5, c6].drop 2).take (Try.prog.cellsOf 38)) a2 := r2
  rw [rd_ListIrOp.1] at r2
  have r2 : Rep.rep w (Old w) [c2] a2 := r2
  obtain ⟨v1, e2, s1⟩ := r2
  obtain ⟨a3, r3⟩ := rd_Int.2.2 enc w base spare held n _ _ ((hf 3 _ rfl).trans (List.getElem?_eq_getElem (by omega)))
  have r3 : Rep.rep w (Old w) (([c0, c1, c2, c3, c4, c5, c6].drop 3).take (Try.prog.cellsOf 3)) a3 := r3
  rw [rd_Int.1] at r3
  have r3 : Rep.rep w (Old w) [c3] a3 := r3
  obtain ⟨e3, k3⟩ := r3
  obtain ⟨a4, r4⟩ := rd_Int.2.2 enc w base spare held n _ _ ((hf 4 _ rfl).trans (List.getElem?_eq_getElem (by omega)))
  have r4 : Rep.rep w (Old w) (([c0, c1, c2, c3, c4, c5, c6].drop 4).take (Try.prog.cellsOf 3)) a4 := r4
  rw [rd_Int.1] at r4
  have r4 : Rep.rep w (Old w) [c4] a4 := r4
  obtain ⟨e4, k4⟩ := r4
  obtain ⟨a5, r5⟩ := rd_Int.2.2 enc w base spare held n _ _ ((hf 5 _ rfl).trans (List.getElem?_eq_getElem (by omega)))
  have r5 : Rep.rep w (Old w) (([c0, c1, c2, c3, c4, c5, c6].drop 5).take (Try.prog.cellsOf 3)) a5 := r5
  rw [rd_Int.1] at r5
  have r5 : Rep.rep w (Old w) [c5] a5 := r5
  obtain ⟨e5, k5⟩ := r5
  obtain ⟨a6, r6⟩ := rd_Int.2.2 enc w base spare held n _ _ ((hf 6 _ rfl).trans (List.getElem?_eq_getElem (by omega)))
  have r6 : Rep.rep w (Old w) (([c0, c1, c2, c3, c4, c5, c6].drop 6).take (Try.prog.cellsOf 3)) a6 := r6
  rw [rd_Int.1] at r6
  have r6 : Rep.rep w (Old w) [c6] a6 := r6
  obtain ⟨e6, k6⟩ := r6
  exact ⟨⟨a0, a1, a2, a3, a4, a5, a6⟩, v1, by simp at e0 e1 e2 e3 e4 e5 e6; simp [*], ⟨k0, k1, k3, k4, k5, k6⟩, s1⟩

theorem rd_ListInt : Rd Try.prog 41 (List Int) := Rd.slice Try.underlying41 (by kernel_rfl) rd_Int

theorem rd_MchMach : Rd Try.prog 43 MchMach := by
  refine ⟨by kernel_rfl, by decide, ?_⟩
  intro H enc w base spare held fuel cs x h
  obtain ⟨xs, n, -, -, hlen, hxl, hf⟩ := DataW.trod_struct Try.underlying43 h
  have hxl : xs.length = 10 := hxl
  have hcs : cs.length = 10 := hlen.trans (by kernel_rfl)
  match cs, hcs with
  | [c0, c1, c2, c3, c4, c5, c6, c7, c8, c9], _ =>
  obtain ⟨a0, r0⟩ := rd_ListInt.2.2 enc w base spare held n _ _ ((hf 0 _ rfl).trans (List.getElem?_eq_getElem (by omega)))
  have r0 : Rep.rep w (Old w) (([c0, c1, c2, c3, c4, c5, c6, c7, c8, c9].drop 0).take (Try.prog.cellsOf 41)) a0 := r0
  rw [rd_ListInt.1] at r0
  have r0 : Rep.rep w (Old w) [c0] a0 := r0
  obtain ⟨v1, e0, s1⟩ := r0
  obtain ⟨a1, r1⟩ := rd_Int.2.2 enc w base spare held n _ _ ((hf 1 _ rfl).trans (List.getElem?_eq_getElem (by omega)))
  have r1 : Rep.rep w (Old w) (([c0, c1, c2, c3, c4, c5, c6, c7, c8, c9].drop 1).take (Try.prog.cellsOf 3)) a1 := r1
  rw [rd_Int.1] at r1
  have r1 : Rep.rep w (Old w) [c1] a1 := r1
  obtain ⟨e1, k1⟩ := r1
  obtain ⟨a2, r2⟩ := rd_ListInt.2.2 enc w base spare held n _ _ ((hf 2 _ rfl).trans (List.getElem?_eq_getElem (by omega)))
  have r2 : Rep.rep w (Old w) (([c0, c1, c2, c3, c4, c5, c6, c7, c8, c9].drop 2).take (Try.prog.cellsOf 41)) a2 := r2
  rw [rd_ListInt.1] at r2
  have r2 : Rep.rep w (Old w) [c2] a2 := r2
  obtain ⟨v2, e2, s2⟩ := r2
  obtain ⟨a3, r3⟩ := rd_Int.2.2 enc w base spare held n _ _ ((hf 3 _ rfl).trans (List.getElem?_eq_getElem (by omega)))
  have r3 : Rep.rep w (Old w) (([c0, c1, c2, c3, c4, c5, c6, c7, c8, c9].drop 3).take (Try.prog.cellsOf 3)) a3 := r3
  rw [rd_Int.1] at r3
  have r3 : Rep.rep w (Old w) [c3] a3 := r3
  obtain ⟨e3, k3⟩ := r3
  obtain ⟨a4, r4⟩ := rd_Bool.2.2 enc w base spare held n _ _ ((hf 4 _ rfl).trans (List.getElem?_eq_getElem (by omega)))
  have r4 : Rep.rep w (Old w) (([c0, c1, c2, c3, c4, c5, c6, c7, c8, c9].drop 4).take (Try.prog.cellsOf 4)) a4 := r4
  rw [rd_Bool.1] at r4
  have r4 : Rep.rep w (Old w) [c4] a4 := r4
  have e4 : [c4] = [Value.bool a4] := r4
  obtain ⟨a5, r5⟩ := rd_Bool.2.2 enc w base spare held n _ _ ((hf 5 _ rfl).trans (List.getElem?_eq_getElem (by omega)))
  have r5 : Rep.rep w (Old w) (([c0, c1, c2, c3, c4, c5, c6, c7, c8, c9].drop 5).take (Try.prog.cellsOf 4)) a5 := r5
  rw [rd_Bool.1] at r5
  have r5 : Rep.rep w (Old w) [c5] a5 := r5
  have e5 : [c5] = [Value.bool a5] := r5
  obtain ⟨a6, r6⟩ := rd_Int.2.2 enc w base spare held n _ _ ((hf 6 _ rfl).trans (List.getElem?_eq_getElem (by omega)))
  have r6 : Rep.rep w (Old w) (([c0, c1, c2, c3, c4, c5, c6, c7, c8, c9].drop 6).take (Try.prog.cellsOf 3)) a6 := r6
  rw [rd_Int.1] at r6
  have r6 : Rep.rep w (Old w) [c6] a6 := r6
  obtain ⟨e6, k6⟩ := r6
  obtain ⟨a7, r7⟩ := rd_ListInt.2.2 enc w base spare held n _ _ ((hf 7 _ rfl).trans (List.getElem?_eq_getElem (by omega)))
  have r7 : Rep.rep w (Old w) (([c0, c1, c2, c3, c4, c5, c6, c7, c8, c9].drop 7).take (Try.prog.cellsOf 41)) a7 := r7
  rw [rd_ListInt.1] at r7
  have r7 : Rep.rep w (Old w) [c7] a7 := r7
  obtain ⟨v3, e7, s3⟩ := r7
  obtain ⟨a8, r8⟩ := rd_ListInt.2.2 enc w base spare held n _ _ ((hf 8 _ rfl).trans (List.getElem?_eq_getElem (by omega)))
  have r8 : Rep.rep w (Old w) (([c0, c1, c2, c3, c4, c5, c6, c7, c8, c9].drop 8).take (Try.prog.cellsOf 41)) a8 := r8
  rw [rd_ListInt.1] at r8
  have r8 : Rep.rep w (Old w) [c8] a8 := r8
  obtain ⟨v4, e8, s4⟩ := r8
  obtain ⟨a9, r9⟩ := rd_Int.2.2 enc w base spare held n _ _ ((hf 9 _ rfl).trans (List.getElem?_eq_getElem (by omega)))
  have r9 : Rep.rep w (Old w) (([c0, c1, c2, c3, c4, c5, c6, c7, c8, c9].drop 9).take (Try.prog.cellsOf 3)) a9 := r9
  rw [rd_Int.1] at r9
  have r9 : Rep.rep w (Old w) [c9] a9 := r9
  obtain ⟨e9, k9⟩ := r9
  exact ⟨⟨a0, a1, a2, a3, a4, a5, a6, a7, a8, a9⟩, v1, v2, v3, v4, by simp at e0 e1 e2 e3 e4 e5 e6 e7 e8 e9; simp [*], ⟨k1, k3, k6, k9⟩, s1, s2, s3, s4⟩

theorem rd_ListUInt8 : Rd Try.prog 22 (List UInt8) := Rd.slice Try.underlying22 (by kernel_rfl) rd_UInt8

theorem rd_ListBool : Rd Try.prog 126 (List Bool) := Rd.slice Try.underlying126 (by kernel_rfl) rd_Bool

end Go.Proofs.Yteaacelfnkiboaa
