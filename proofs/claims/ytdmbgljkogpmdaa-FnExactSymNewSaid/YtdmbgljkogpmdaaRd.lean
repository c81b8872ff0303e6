/-
  What the arguments of the laws can be read as: each type of theirs reads as a Lean type.
-/
import Derived.Test.YtdmbgljkogpmdaaRows
import Derived.Test.YtdmbgljkogpmdaaTy
import Derived.Test.YtdmbgljkogpmdaaRead
namespace Go.Proofs.Ytdmbgljkogpmdaa
open Go.RowKit
open Go.ChangeShapes Go.WideShapes
set_option linter.unusedVariables false
set_option linter.unusedSimpArgs false
set_option maxRecDepth 100000

theorem rd_Int : Rd Try.prog 3 Int := Rd.int Try.underlying3 (by kernel_rfl)

theorem rd_Bool : Rd Try.prog 4 Bool := Rd.bool Try.underlying4 (by kernel_rfl)

theorem rd_UInt8 : Rd Try.prog 5 UInt8 := Rd.byte Try.underlying5 (by kernel_rfl)

theorem rd_ListInt : Rd Try.prog 102 (List Int) := Rd.slice Try.underlying102 (by kernel_rfl) rd_Int

theorem rd_TrmMono : Rd Try.prog 131 TrmMono := by
  refine ⟨by kernel_rfl, by decide, ?_⟩
  intro H enc w base spare held fuel cs x h
  obtain ⟨xs, n, -, -, hlen, hxl, hf⟩ := DataW.trod_struct Try.underlying131 h
  have hxl : xs.length = 2 := hxl
  have hcs : cs.length = 2 := hlen.trans (by kernel_rfl)
  match cs, hcs with
  | [c0, c1], _ =>
  obtain ⟨a0, r0⟩ := rd_Int.2.2 enc w base spare held n _ _ ((hf 0 _ rfl).trans (List.getElem?_eq_getElem (by omega)))
  have r0 : Rep.rep w (Old w) (([c0, c1].drop 0).take (Try.prog.cellsOf 3)) a0 := r0
  rw [rd_Int.1] at r0
  have r0 : Rep.rep w (Old w) [c0] a0 := r0
  obtain ⟨e0, k0⟩ := r0
  obtain ⟨a1, r1⟩ := rd_ListInt.2.2 enc w base spare held n _ _ ((hf 1 _ rfl).trans (List.getElem?_eq_getElem (by omega)))
  have r1 : Rep.rep w (Old w) (([c0, c1].drop 1).take (Try.prog.cellsOf 102)) a1 := r1
  rw [rd_ListInt.1] at r1
  have r1 : Rep.rep w (Old w) [c1] a1 := r1
  obtain ⟨v1, e1, s1⟩ := r1
  exact ⟨⟨a0, a1⟩, v1, by simp at e0 e1; simp [*], k0, s1⟩

theorem rd_ListTrmMono : Rd Try.prog 36 (List TrmMono) := Rd.slice Try.underlying36 (by kernel_rfl) rd_TrmMono

theorem rd_TrmPoly : Rd Try.prog 38 TrmPoly := by
  refine ⟨by kernel_rfl, by decide, ?_⟩
  intro H enc w base spare held fuel cs x h
  obtain ⟨xs, n, -, -, hlen, hxl, hf⟩ := DataW.trod_struct Try.underlying38 h
  have hxl : xs.length = 1 := hxl
  have hcs : cs.length = 1 := hlen.trans (by kernel_rfl)
  match cs, hcs with
  | [c0], _ =>
  obtain ⟨a0, r0⟩ := rd_ListTrmMono.2.2 enc w base spare held n _ _ ((hf 0 _ rfl).trans (List.getElem?_eq_getElem (by omega)))
  have r0 : Rep.rep w (Old w) (([c0].drop 0).take (Try.prog.cellsOf 36)) a0 := r0
  rw [rd_ListTrmMono.1] at r0
  have r0 : Rep.rep w (Old w) [c0] a0 := r0
  obtain ⟨v1, e0, s1⟩ := r0
  exact ⟨⟨a0⟩, v1, by simp at e0; simp [*], trivial, s1⟩

theorem rd_ListTrmPoly : Rd Try.prog 56 (List TrmPoly) := Rd.slice Try.underlying56 (by kernel_rfl) rd_TrmPoly

theorem rd_TabAtom : Rd Try.prog 40 TabAtom := by
  refine ⟨by kernel_rfl, by decide, ?_⟩
  intro H enc w base spare held fuel cs x h
  obtain ⟨xs, n, -, -, hlen, hxl, hf⟩ := DataW.trod_struct Try.underlying40 h
  have hxl : xs.length = 4 := hxl
  have hcs : cs.length = 4 := hlen.trans (by kernel_rfl)
  match cs, hcs with
  | [c0, c1, c2, c3], _ =>
  obtain ⟨a0, r0⟩ := rd_Int.2.2 enc w base spare held n _ _ ((hf 0 _ rfl).trans (List.getElem?_eq_getElem (by omega)))
  have r0 : Rep.rep w (Old w) (([c0, c1, c2, c3].drop 0).take (Try.prog.cellsOf 3)) a0 := r0
  rw [rd_Int.1] at r0
  have r0 : Rep.rep w (Old w) [c0] a0 := r0
  obtain ⟨e0, k0⟩ := r0
  obtain ⟨a1, r1⟩ := rd_Int.2.2 enc w base spare held n _ _ ((hf 1 _ rfl).trans (List.getElem?_eq_getElem (by omega)))
  have r1 : Rep.rep w (Old w) (([c0, c1, c2, c3].drop 1).take (Try.prog.cellsOf 3)) a1 := r1
  rw [rd_Int.1] at r1
  have r1 : Rep.rep w (Old w) [c1] a1 := r1
  obtain ⟨e1, k1⟩ := r1
  obtain ⟨a2, r2⟩ := rd_TrmPoly.2.2 enc w base spare held n _ _ ((hf 2 _ rfl).trans (List.getElem?_eq_getElem (by omega)))
  have r2 : Rep.rep w (Old w) (([c0, c1, c2, c3].drop 2).take (Try.prog.cellsOf 38)) a2 := r2
  rw [rd_TrmPoly.1] at r2
  have r2 : Rep.rep w (Old w) [c2] a2 := r2
  obtain ⟨v1, e2, k2, s1⟩ := r2
  obtain ⟨a3, r3⟩ := rd_TrmPoly.2.2 enc w base spare held n _ _ ((hf 3 _ rfl).trans (List.getElem?_eq_getElem (by omega)))
  have r3 : Rep.rep w (Old w) (([c0, c1, c2, c3].drop 3).take (Try.prog.cellsOf 38)) a3 := r3
  rw [rd_TrmPoly.1] at r3
  have r3 : Rep.rep w (Old w) [c3] a3 := r3
  obtain ⟨v2, e3, k3, s2⟩ := r3
  exact ⟨⟨a0, a1, a2, a3⟩, v1, v2, by simp at e0 e1 e2 e3; simp [*], ⟨k0, k1⟩, s1, s2⟩

theorem rd_ListTabAtom : Rd Try.prog 33 (List TabAtom) := Rd.slice Try.underlying33 (by kernel_rfl) rd_TabAtom

theorem rd_TabTab : Rd Try.prog 35 TabTab := by
  refine ⟨by kernel_rfl, by decide, ?_⟩
  intro H enc w base spare held fuel cs x h
  obtain ⟨xs, n, -, -, hlen, hxl, hf⟩ := DataW.trod_struct Try.underlying35 h
  have hxl : xs.length = 1 := hxl
  have hcs : cs.length = 1 := hlen.trans (by kernel_rfl)
  match cs, hcs with
  | [c0], _ =>
  obtain ⟨a0, r0⟩ := rd_ListTabAtom.2.2 enc w base spare held n _ _ ((hf 0 _ rfl).trans (List.getElem?_eq_getElem (by omega)))
  have r0 : Rep.rep w (Old w) (([c0].drop 0).take (Try.prog.cellsOf 33)) a0 := r0
  rw [rd_ListTabAtom.1] at r0
  have r0 : Rep.rep w (Old w) [c0] a0 := r0
  obtain ⟨v1, e0, s1⟩ := r0
  exact ⟨⟨a0⟩, v1, by simp at e0; simp [*], trivial, s1⟩

theorem rd_SymEvent : Rd Try.prog 118 SymEvent := by
  refine ⟨by kernel_rfl, by decide, ?_⟩
  intro H enc w base spare held fuel cs x h
  obtain ⟨xs, n, -, -, hlen, hxl, hf⟩ := DataW.trod_struct Try.underlying118 h
  have hxl : xs.length = 5 := hxl
  have hcs : cs.length = 5 := hlen.trans (by kernel_rfl)
  match cs, hcs with
  | [c0, c1, c2, c3, c4], _ =>
  obtain ⟨a0, r0⟩ := rd_Int.2.2 enc w base spare held n _ _ ((hf 0 _ rfl).trans (List.getElem?_eq_getElem (by omega)))
  have r0 : Rep.rep w (Old w) (([c0, c1, c2, c3, c4].drop 0).take (Try.prog.cellsOf 3)) a0 := r0
  rw [rd_Int.1] at r0
  have r0 : Rep.rep w (Old w) [c0] a0 := r0
  obtain ⟨e0, k0⟩ := r0
  obtain ⟨a1, r1⟩ := rd_Int.2.2 enc w base spare held n _ _ ((hf 1 _ rfl).trans (List.getElem?_eq_getElem (by omega)))
  have r1 : Rep.rep w (Old w) (([c0, c1, c2, c3, c4].drop 1).take (Try.prog.cellsOf 3)) a1 := r1
  rw [rd_Int.1] at r1
  have r1 : Rep.rep w (Old w) [c1] a1 := r1
  obtain ⟨e1, k1⟩ := r1
  obtain ⟨a2, r2⟩ := rd_TrmPoly.2.2 enc w base spare held n _ _ ((hf 2 _ rfl).trans (List.getElem?_eq_getElem (by omega)))
  have r2 : Rep.rep w (Old w) (([c0, c1, c2, c3, c4].drop 2).take (Try.prog.cellsOf 38)) a2 := r2
  rw [rd_TrmPoly.1] at r2
  have r2 : Rep.rep w (Old w) [c2] a2 := r2
  obtain ⟨v1, e2, k2, s1⟩ := r2
  obtain ⟨a3, r3⟩ := rd_TrmPoly.2.2 enc w base spare held n _ _ ((hf 3 _ rfl).trans (List.getElem?_eq_getElem (by omega)))
  have r3 : Rep.rep w (Old w) (([c0, c1, c2, c3, c4].drop 3).take (Try.prog.cellsOf 38)) a3 := r3
  rw [rd_TrmPoly.1] at r3
  have r3 : Rep.rep w (Old w) [c3] a3 := r3
  obtain ⟨v2, e3, k3, s2⟩ := r3
  obtain ⟨a4, r4⟩ := rd_ListTrmPoly.2.2 enc w base spare held n _ _ ((hf 4 _ rfl).trans (List.getElem?_eq_getElem (by omega)))
  have r4 : Rep.rep w (Old w) (([c0, c1, c2, c3, c4].drop 4).take (Try.prog.cellsOf 56)) a4 := r4
  rw [rd_ListTrmPoly.1] at r4
  have r4 : Rep.rep w (Old w) [c4] a4 := r4
  obtain ⟨v3, e4, s3⟩ := r4
  exact ⟨⟨a0, a1, a2, a3, a4⟩, v1, v2, v3, by simp at e0 e1 e2 e3 e4; simp [*], ⟨k0, k1⟩, s1, s2, s3⟩

theorem rd_ListSymEvent : Rd Try.prog 55 (List SymEvent) := Rd.slice Try.underlying55 (by kernel_rfl) rd_SymEvent

theorem rd_SymSym : Rd Try.prog 58 SymSym := by
  refine ⟨by kernel_rfl, by decide, ?_⟩
  intro H enc w base spare held fuel cs x h
  obtain ⟨xs, n, -, -, hlen, hxl, hf⟩ := DataW.trod_struct Try.underlying58 h
  have hxl : xs.length = 6 := hxl
  have hcs : cs.length = 6 := hlen.trans (by kernel_rfl)
  match cs, hcs with
  | [c0, c1, c2, c3, c4, c5], _ =>
  obtain ⟨a0, r0⟩ := rd_ListSymEvent.2.2 enc w base spare held n _ _ ((hf 0 _ rfl).trans (List.getElem?_eq_getElem (by omega)))
  have r0 : Rep.rep w (Old w) (([c0, c1, c2, c3, c4, c5].drop 0).take (Try.prog.cellsOf 55)) a0 := r0
  rw [rd_ListSymEvent.1] at r0
  have r0 : Rep.rep w (Old w) [c0] a0 := r0
  obtain ⟨v1, e0, s1⟩ := r0
  obtain ⟨a1, r1⟩ := rd_ListTrmPoly.2.2 enc w base spare held n _ _ ((hf 1 _ rfl).trans (List.getElem?_eq_getElem (by omega)))
  have r1 : Rep.rep w (Old w) (([c0, c1, c2, c3, c4, c5].drop 1).take (Try.prog.cellsOf 56)) a1 := r1
  rw [rd_ListTrmPoly.1] at r1
  have r1 : Rep.rep w (Old w) [c1] a1 := r1
  obtain ⟨v2, e1, s2⟩ := r1
  obtain ⟨a2, r2⟩ := rd_Int.2.2 enc w base spare held n _ _ ((hf 2 _ rfl).trans (List.getElem?_eq_getElem (by omega)))
  have r2 : Rep.rep w (Old w) (([c0, c1, c2, c3, c4, c5].drop 2).take (Try.prog.cellsOf 3)) a2 := r2
  rw [rd_Int.1] at r2
  have r2 : Rep.rep w (Old w) [c2] a2 := r2
  obtain ⟨e2, k2⟩ := r2
  obtain ⟨a3, r3⟩ := rd_TrmPoly.2.2 enc w base spare held n _ _ ((hf 3 _ rfl).trans (List.getElem?_eq_getElem (by omega)))
  have r3 : Rep.rep w (Old w) (([c0, c1, c2, c3, c4, c5].drop 3).take (Try.prog.cellsOf 38)) a3 := r3
  rw [rd_TrmPoly.1] at r3
  have r3 : Rep.rep w (Old w) [c3] a3 := r3
  obtain ⟨v3, e3, k3, s3⟩ := r3
  obtain ⟨a4, r4⟩ := rd_TrmPoly.2.2 enc w base spare held n _ _ ((hf 4 _ rfl).trans (List.getElem?_eq_getElem (by omega)))
  have r4 : Rep.rep w (Old w) (([c0, c1, c2, c3, c4, c5].drop 4).take (Try.prog.cellsOf 38)) a4 := r4
  rw [rd_TrmPoly.1] at r4
  have r4 : Rep.rep w (Old w) [c4] a4 := r4
  obtain ⟨v4, e4, k4, s4⟩ := r4
  obtain ⟨a5, r5⟩ := rd_Int.2.2 enc w base spare held n _ _ ((hf 5 _ rfl).trans (List.getElem?_eq_getElem (by omega)))
  have r5 : Rep.rep w (Old w) (([c0, c1, c2, c3, c4, c5].drop 5).take (Try.prog.cellsOf 3)) a5 := r5
  rw [rd_Int.1] at r5
  have r5 : Rep.rep w (Old w) [c5] a5 := r5
  obtain ⟨e5, k5⟩ := r5
  exact ⟨⟨a0, a1, a2, a3, a4, a5⟩, v1, v2, v3, v4, by simp at e0 e1 e2 e3 e4 e5; simp [*], ⟨k2, k5⟩, s1, s2, s3, s4⟩

end Go.Proofs.Ytdmbgljkogpmdaa
