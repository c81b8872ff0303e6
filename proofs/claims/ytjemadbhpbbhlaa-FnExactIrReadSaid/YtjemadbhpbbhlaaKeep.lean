/-
  The program keeps some operations of a block.
-/
import Derived.Test.YtjemadbhpbbhlaaRename
import Derived.Test.YtjemadbhpbbhlaaEndHas
import Derived.Test.YtjemadbhpbbhlaaRowLib
import Derived.Test.YtjemadbhpbbhlaaClone
import Derived.Deep.DeepCutAuto
namespace Go.Proofs.Ytjemadbhpbbhlaa
open Go.RowKit

set_option linter.unusedVariables false
set_option linter.unusedSimpArgs false
set_option maxRecDepth 100000

theorem infzInt : (Try.prog.info? 3).map (fun i => (i.zero, i.size, i.bytes)) = some (some (.int .i64 0), 1, 8) := by kernel_rfl

theorem infzBool : (Try.prog.info? 4).map (fun i => (i.zero, i.size, i.bytes)) = some (some (.bool false), 1, 1) := by kernel_rfl

theorem namesPad_succ (ops : List IrOp) (ks : List Bool) (n k : Nat) (h : k < n) : (namesTo ops ks k ++ List.replicate (n - k) (0 : Int)).set k ((keptTo ops ks k).length : Int) = namesTo ops ks (k + 1) ++ List.replicate (n - (k + 1)) 0 := by
  obtain ⟨d, hd⟩ : ∃ d, n - k = d + 1 := ⟨n - k - 1, by omega⟩
  rw [hd, show n - (k + 1) = d by omega, List.replicate_succ, List.set_append_right _ _ (by rw [namesTo_length]; exact Nat.le_refl _), namesTo_length, Nat.sub_self, List.set_cons_zero]
  simp [namesTo]
theorem keptTo_mem (ops : List IrOp) (ks : List Bool) : ∀ k o, o ∈ keptTo ops ks k → o ∈ ops
  | 0, o, h => by simp [keptTo] at h
  | k + 1, o, h => by
    unfold keptTo at h
    rcases List.mem_append.1 h with h | h
    · exact keptTo_mem ops ks k o h
    · split at h
      · cases hq : ops[k]? with
        | none => rw [hq] at h; simp at h
        | some x =>
          rw [hq] at h
          simp at h
          subst h
          exact List.mem_of_getElem? hq
      · simp at h

set_option maxHeartbeats 32000000 in
theorem keep_any (b : IrBlock) (ks : List Bool) (v vk : Value) (w : World) (h : Sl w (Old w) v b.ops) (hkk : Sl w (Old w) vk ks) (hok : irOkB b = true) (hks : ks.length = b.ops.length) :
    Calls Try.prog 101 #[.agg #[.int .i64 b.pc, .int .i64 b.len, v, .int .i64 b.fin, .int .i64 b.x, .int .i64 b.y, .int .i64 b.k], vk] w fun e w' => ∃ r1 F, e = .returned (.agg #[.int .i64 ((dropB b ks).pc), .int .i64 ((dropB b ks).len), r1, .int .i64 ((dropB b ks).fin), .int .i64 ((dropB b ks).x), .int .i64 ((dropB b ks).y), .int .i64 ((dropB b ks).k)]) ∧ OwnSl w' r1 (dropB b ks).ops F ∧ Fr w w' F ∧ Ext w w' := by
  obtain ⟨Ab1, cb1, rfl, hl, hm⟩ := h.form
  obtain ⟨Ak, ck, rfl, hlk, hmk_⟩ := hkk.form
  unfold maxLen at hm hmk_
  have hn48 := ok_n hok
  obtain ⟨i_m, hi_m, hz0_m, hz1_m, hz2_m⟩ := info_parts infzInt
  have hmk_m : ∀ w : World, (Instr.makeSlice 63 (.int .i64 (b.ops.length : Int)) (.int .i64 (b.ops.length : Int))).run Try.prog w = .ok (.slice (some ⟨w.heap.size, 0, none⟩) b.ops.length b.ops.length) (w.alloc (.cells (madeCells (Value.int .i64 0).cells (b.ops.length * i_m.size)) 3)) :=
    fun w => run_make_rowN 63 3 i_m _ Try.underlying63 hi_m hz0_m _ _ (b.ops.length) (b.ops.length) (Nat.le_refl _) (by rw [hz2_m]; omega) (by omega) w
  have HM_m := hide (show b.ops.length * i_m.size = b.ops.length by rw [show i_m.size = 1 from hz1_m]; try omega)
  clear hi_m hz0_m hz1_m hz2_m
  obtain ⟨i0, hi, hz0, hz1, hz2⟩ := info_parts infIrOp
  have HI := hide hi
  have HZ0 := hide hz0
  have HZ1 := hide hz1
  have HZ2 := hide hz2
  clear hi hz0 hz1 hz2
  go_enter Try.func101, Try.ntmps101
  have he0 : Ext w w := Ext.refl _
  have hs0 : w.heap.size ≤ w.heap.size := Nat.le_refl _
  have hq0 := hide (rfl : w.heap.size = w.heap.size)
  go_wp2_with fail
  have hA0 : FApp w (w.heap.size + 4) ((((w.alloc (Obj.cells #[.int .i64 b.pc, .int .i64 b.len, (.slice Ab1 b.ops.length cb1), .int .i64 b.fin, .int .i64 b.x, .int .i64 b.y, .int .i64 b.k] 30)).alloc (Obj.cells #[.int .i64 0, .int .i64 0, .slice none 0 0, .int .i64 0, .int .i64 0, .int .i64 0, .int .i64 0] 30)).alloc (.cells (madeCells #[Value.int .i64 0] (b.ops.length * i_m.size)) 3)).alloc (Obj.cells #[.int .i64 b.pc, .int .i64 b.len, (.slice none 0 0), .int .i64 b.fin, .int .i64 b.x, .int .i64 b.y, .int .i64 b.k] 30)) 92 (.slice none 0 0) ([] : List IrOp) [] [] := FApp.nil w _ _ _ (Ext.auto)
  have he1 : Ext w ((((w.alloc (Obj.cells #[.int .i64 b.pc, .int .i64 b.len, (.slice Ab1 b.ops.length cb1), .int .i64 b.fin, .int .i64 b.x, .int .i64 b.y, .int .i64 b.k] 30)).alloc (Obj.cells #[.int .i64 0, .int .i64 0, .slice none 0 0, .int .i64 0, .int .i64 0, .int .i64 0, .int .i64 0] 30)).alloc (.cells (madeCells #[Value.int .i64 0] (b.ops.length * i_m.size)) 3)).alloc (Obj.cells #[.int .i64 b.pc, .int .i64 b.len, (.slice none 0 0), .int .i64 b.fin, .int .i64 b.x, .int .i64 b.y, .int .i64 b.k] 30)) := (Ext.hold he0)
  have hs1 : w.heap.size + 4 ≤ (((((w.alloc (Obj.cells #[.int .i64 b.pc, .int .i64 b.len, (.slice Ab1 b.ops.length cb1), .int .i64 b.fin, .int .i64 b.x, .int .i64 b.y, .int .i64 b.k] 30)).alloc (Obj.cells #[.int .i64 0, .int .i64 0, .slice none 0 0, .int .i64 0, .int .i64 0, .int .i64 0, .int .i64 0] 30)).alloc (.cells (madeCells #[Value.int .i64 0] (b.ops.length * i_m.size)) 3)).alloc (Obj.cells #[.int .i64 b.pc, .int .i64 b.len, (.slice none 0 0), .int .i64 b.fin, .int .i64 b.x, .int .i64 b.y, .int .i64 b.k] 30))).heap.size := by simp
  have hq1 := hide (show (((((w.alloc (Obj.cells #[.int .i64 b.pc, .int .i64 b.len, (.slice Ab1 b.ops.length cb1), .int .i64 b.fin, .int .i64 b.x, .int .i64 b.y, .int .i64 b.k] 30)).alloc (Obj.cells #[.int .i64 0, .int .i64 0, .slice none 0 0, .int .i64 0, .int .i64 0, .int .i64 0, .int .i64 0] 30)).alloc (.cells (madeCells #[Value.int .i64 0] (b.ops.length * i_m.size)) 3)).alloc (Obj.cells #[.int .i64 b.pc, .int .i64 b.len, (.slice none 0 0), .int .i64 b.fin, .int .i64 b.x, .int .i64 b.y, .int .i64 b.k] 30))).heap.size = w.heap.size + 4 by simp)
  have hRn_1 : FRow (((((w.alloc (Obj.cells #[.int .i64 b.pc, .int .i64 b.len, (.slice Ab1 b.ops.length cb1), .int .i64 b.fin, .int .i64 b.x, .int .i64 b.y, .int .i64 b.k] 30)).alloc (Obj.cells #[.int .i64 0, .int .i64 0, .slice none 0 0, .int .i64 0, .int .i64 0, .int .i64 0, .int .i64 0] 30)).alloc (.cells (madeCells #[Value.int .i64 0] (b.ops.length * i_m.size)) 3)).alloc (Obj.cells #[.int .i64 b.pc, .int .i64 b.len, (.slice none 0 0), .int .i64 b.fin, .int .i64 b.x, .int .i64 b.y, .int .i64 b.k] 30))) (w.heap.size + 1 + 1) 0 (List.replicate b.ops.length (0 : Int)) := (by have := (FRow.make (α := Int) ((w.alloc (Obj.cells #[.int .i64 b.pc, .int .i64 b.len, (.slice Ab1 b.ops.length cb1), .int .i64 b.fin, .int .i64 b.x, .int .i64 b.y, .int .i64 b.k] 30)).alloc (Obj.cells #[.int .i64 0, .int .i64 0, .slice none 0 0, .int .i64 0, .int .i64 0, .int .i64 0, .int .i64 0] 30)) (Value.int .i64 0) 3 (b.ops.length) (0 : Int) rfl ⟨rfl, fits_small (by omega) (by omega)⟩ HM_m.out).alloc (Obj.cells #[.int .i64 b.pc, .int .i64 b.len, (.slice none 0 0), .int .i64 b.fin, .int .i64 b.x, .int .i64 b.y, .int .i64 b.k] 30); simpa using this)
  have hBb_1 : Bx (((((w.alloc (Obj.cells #[.int .i64 b.pc, .int .i64 b.len, (.slice Ab1 b.ops.length cb1), .int .i64 b.fin, .int .i64 b.x, .int .i64 b.y, .int .i64 b.k] 30)).alloc (Obj.cells #[.int .i64 0, .int .i64 0, .slice none 0 0, .int .i64 0, .int .i64 0, .int .i64 0, .int .i64 0] 30)).alloc (.cells (madeCells #[Value.int .i64 0] (b.ops.length * i_m.size)) 3)).alloc (Obj.cells #[.int .i64 b.pc, .int .i64 b.len, (.slice none 0 0), .int .i64 b.fin, .int .i64 b.x, .int .i64 b.y, .int .i64 b.k] 30))) (w.heap.size) [.int .i64 b.pc, .int .i64 b.len, (.slice Ab1 b.ops.length cb1), .int .i64 b.fin, .int .i64 b.x, .int .i64 b.y, .int .i64 b.k] := (by have := (Bx.alloc (Bx.alloc (Bx.alloc (Bx.new w #[.int .i64 b.pc, .int .i64 b.len, (.slice Ab1 b.ops.length cb1), .int .i64 b.fin, .int .i64 b.x, .int .i64 b.y, .int .i64 b.k] 30) (by first | (simp; done) | (simp; omega)) #[.int .i64 0, .int .i64 0, .slice none 0 0, .int .i64 0, .int .i64 0, .int .i64 0, .int .i64 0] 30) (by first | (simp; done) | (simp; omega)) (madeCells #[Value.int .i64 0] (b.ops.length * i_m.size)) 3) (by first | (simp; done) | (simp; omega)) #[.int .i64 b.pc, .int .i64 b.len, (.slice none 0 0), .int .i64 b.fin, .int .i64 b.x, .int .i64 b.y, .int .i64 b.k] 30); simpa using this)
  have hFb_1 : ∀ oo, (((((w.alloc (Obj.cells #[.int .i64 b.pc, .int .i64 b.len, (.slice Ab1 b.ops.length cb1), .int .i64 b.fin, .int .i64 b.x, .int .i64 b.y, .int .i64 b.k] 30)).alloc (Obj.cells #[.int .i64 0, .int .i64 0, .slice none 0 0, .int .i64 0, .int .i64 0, .int .i64 0, .int .i64 0] 30)).alloc (.cells (madeCells #[Value.int .i64 0] (b.ops.length * i_m.size)) 3)).alloc (Obj.cells #[.int .i64 b.pc, .int .i64 b.len, (.slice none 0 0), .int .i64 b.fin, .int .i64 b.x, .int .i64 b.y, .int .i64 b.k] 30))).frozen? ⟨w.heap.size, oo, none⟩ = false := (fz_alloc (fz_alloc (fz_alloc (fz_new w #[.int .i64 b.pc, .int .i64 b.len, (.slice Ab1 b.ops.length cb1), .int .i64 b.fin, .int .i64 b.x, .int .i64 b.y, .int .i64 b.k] 30 (by first | rfl | simp)) (by first | (simp; done) | (simp; omega)) (.cells #[.int .i64 0, .int .i64 0, .slice none 0 0, .int .i64 0, .int .i64 0, .int .i64 0, .int .i64 0] 30)) (by first | (simp; done) | (simp; omega)) (.cells (madeCells #[Value.int .i64 0] (b.ops.length * i_m.size)) 3)) (by first | (simp; done) | (simp; omega)) (.cells #[.int .i64 b.pc, .int .i64 b.len, (.slice none 0 0), .int .i64 b.fin, .int .i64 b.x, .int .i64 b.y, .int .i64 b.k] 30))
  have hBres_1 : Bx (((((w.alloc (Obj.cells #[.int .i64 b.pc, .int .i64 b.len, (.slice Ab1 b.ops.length cb1), .int .i64 b.fin, .int .i64 b.x, .int .i64 b.y, .int .i64 b.k] 30)).alloc (Obj.cells #[.int .i64 0, .int .i64 0, .slice none 0 0, .int .i64 0, .int .i64 0, .int .i64 0, .int .i64 0] 30)).alloc (.cells (madeCells #[Value.int .i64 0] (b.ops.length * i_m.size)) 3)).alloc (Obj.cells #[.int .i64 b.pc, .int .i64 b.len, (.slice none 0 0), .int .i64 b.fin, .int .i64 b.x, .int .i64 b.y, .int .i64 b.k] 30))) (w.heap.size + 1) [.int .i64 0, .int .i64 0, .slice none 0 0, .int .i64 0, .int .i64 0, .int .i64 0, .int .i64 0] := (by have := (Bx.alloc (Bx.alloc (Bx.new (w.alloc (Obj.cells #[.int .i64 b.pc, .int .i64 b.len, (.slice Ab1 b.ops.length cb1), .int .i64 b.fin, .int .i64 b.x, .int .i64 b.y, .int .i64 b.k] 30)) #[.int .i64 0, .int .i64 0, .slice none 0 0, .int .i64 0, .int .i64 0, .int .i64 0, .int .i64 0] 30) (by first | (simp; done) | (simp; omega)) (madeCells #[Value.int .i64 0] (b.ops.length * i_m.size)) 3) (by first | (simp; done) | (simp; omega)) #[.int .i64 b.pc, .int .i64 b.len, (.slice none 0 0), .int .i64 b.fin, .int .i64 b.x, .int .i64 b.y, .int .i64 b.k] 30); simpa using this)
  have hFres_1 : ∀ oo, (((((w.alloc (Obj.cells #[.int .i64 b.pc, .int .i64 b.len, (.slice Ab1 b.ops.length cb1), .int .i64 b.fin, .int .i64 b.x, .int .i64 b.y, .int .i64 b.k] 30)).alloc (Obj.cells #[.int .i64 0, .int .i64 0, .slice none 0 0, .int .i64 0, .int .i64 0, .int .i64 0, .int .i64 0] 30)).alloc (.cells (madeCells #[Value.int .i64 0] (b.ops.length * i_m.size)) 3)).alloc (Obj.cells #[.int .i64 b.pc, .int .i64 b.len, (.slice none 0 0), .int .i64 b.fin, .int .i64 b.x, .int .i64 b.y, .int .i64 b.k] 30))).frozen? ⟨w.heap.size + 1, oo, none⟩ = false := (fz_alloc (fz_alloc (fz_new (w.alloc (Obj.cells #[.int .i64 b.pc, .int .i64 b.len, (.slice Ab1 b.ops.length cb1), .int .i64 b.fin, .int .i64 b.x, .int .i64 b.y, .int .i64 b.k] 30)) #[.int .i64 0, .int .i64 0, .slice none 0 0, .int .i64 0, .int .i64 0, .int .i64 0, .int .i64 0] 30 (by first | rfl | simp)) (by first | (simp; done) | (simp; omega)) (.cells (madeCells #[Value.int .i64 0] (b.ops.length * i_m.size)) 3)) (by first | (simp; done) | (simp; omega)) (.cells #[.int .i64 b.pc, .int .i64 b.len, (.slice none 0 0), .int .i64 b.fin, .int .i64 b.x, .int .i64 b.y, .int .i64 b.k] 30))
  have hBu_1 : Bx (((((w.alloc (Obj.cells #[.int .i64 b.pc, .int .i64 b.len, (.slice Ab1 b.ops.length cb1), .int .i64 b.fin, .int .i64 b.x, .int .i64 b.y, .int .i64 b.k] 30)).alloc (Obj.cells #[.int .i64 0, .int .i64 0, .slice none 0 0, .int .i64 0, .int .i64 0, .int .i64 0, .int .i64 0] 30)).alloc (.cells (madeCells #[Value.int .i64 0] (b.ops.length * i_m.size)) 3)).alloc (Obj.cells #[.int .i64 b.pc, .int .i64 b.len, (.slice none 0 0), .int .i64 b.fin, .int .i64 b.x, .int .i64 b.y, .int .i64 b.k] 30))) (w.heap.size + 1 + 1 + 1) [.int .i64 b.pc, .int .i64 b.len, (.slice none 0 0), .int .i64 b.fin, .int .i64 b.x, .int .i64 b.y, .int .i64 b.k] := (by have := (Bx.new (((w.alloc (Obj.cells #[.int .i64 b.pc, .int .i64 b.len, (.slice Ab1 b.ops.length cb1), .int .i64 b.fin, .int .i64 b.x, .int .i64 b.y, .int .i64 b.k] 30)).alloc (Obj.cells #[.int .i64 0, .int .i64 0, .slice none 0 0, .int .i64 0, .int .i64 0, .int .i64 0, .int .i64 0] 30)).alloc (.cells (madeCells #[Value.int .i64 0] (b.ops.length * i_m.size)) 3)) #[.int .i64 b.pc, .int .i64 b.len, (.slice none 0 0), .int .i64 b.fin, .int .i64 b.x, .int .i64 b.y, .int .i64 b.k] 30); simpa using this)
  have hFu_1 : ∀ oo, (((((w.alloc (Obj.cells #[.int .i64 b.pc, .int .i64 b.len, (.slice Ab1 b.ops.length cb1), .int .i64 b.fin, .int .i64 b.x, .int .i64 b.y, .int .i64 b.k] 30)).alloc (Obj.cells #[.int .i64 0, .int .i64 0, .slice none 0 0, .int .i64 0, .int .i64 0, .int .i64 0, .int .i64 0] 30)).alloc (.cells (madeCells #[Value.int .i64 0] (b.ops.length * i_m.size)) 3)).alloc (Obj.cells #[.int .i64 b.pc, .int .i64 b.len, (.slice none 0 0), .int .i64 b.fin, .int .i64 b.x, .int .i64 b.y, .int .i64 b.k] 30))).frozen? ⟨w.heap.size + 1 + 1 + 1, oo, none⟩ = false := (fz_new (((w.alloc (Obj.cells #[.int .i64 b.pc, .int .i64 b.len, (.slice Ab1 b.ops.length cb1), .int .i64 b.fin, .int .i64 b.x, .int .i64 b.y, .int .i64 b.k] 30)).alloc (Obj.cells #[.int .i64 0, .int .i64 0, .slice none 0 0, .int .i64 0, .int .i64 0, .int .i64 0, .int .i64 0] 30)).alloc (.cells (madeCells #[Value.int .i64 0] (b.ops.length * i_m.size)) 3)) #[.int .i64 b.pc, .int .i64 b.len, (.slice none 0 0), .int .i64 b.fin, .int .i64 b.x, .int .i64 b.y, .int .i64 b.k] 30 (by first | rfl | simp))
  generalize ((((w.alloc (Obj.cells #[.int .i64 b.pc, .int .i64 b.len, (.slice Ab1 b.ops.length cb1), .int .i64 b.fin, .int .i64 b.x, .int .i64 b.y, .int .i64 b.k] 30)).alloc (Obj.cells #[.int .i64 0, .int .i64 0, .slice none 0 0, .int .i64 0, .int .i64 0, .int .i64 0, .int .i64 0] 30)).alloc (.cells (madeCells #[Value.int .i64 0] (b.ops.length * i_m.size)) 3)).alloc (Obj.cells #[.int .i64 b.pc, .int .i64 b.len, (.slice none 0 0), .int .i64 b.fin, .int .i64 b.x, .int .i64 b.y, .int .i64 b.k] 30)) = w1 at *
  go_loopw [18] (fun i w2 => ∃ (k : Nat) (A2 : Option Addr) (c2 : Nat) (Fs : List (List Nat)) (xs : List Value), k ≤ b.ops.length ∧ i = .int .i64 (k : Int) ∧ FApp w (w.heap.size + 4) w2 92 (.slice A2 (keptTo b.ops ks k).length c2) (keptTo b.ops ks k) Fs xs ∧ Ext w w2 ∧ w1.heap.size ≤ w2.heap.size ∧ Bx w2 (w.heap.size) [.int .i64 b.pc, .int .i64 b.len, (.slice Ab1 b.ops.length cb1), .int .i64 b.fin, .int .i64 b.x, .int .i64 b.y, .int .i64 b.k] ∧ (∀ oo, w2.frozen? ⟨w.heap.size, oo, none⟩ = false) ∧ Bx w2 (w.heap.size + 1) [.int .i64 0, .int .i64 0, .slice none 0 0, .int .i64 0, .int .i64 0, .int .i64 0, .int .i64 0] ∧ (∀ oo, w2.frozen? ⟨w.heap.size + 1, oo, none⟩ = false) ∧ Bx w2 (w.heap.size + 1 + 1 + 1) [.int .i64 b.pc, .int .i64 b.len, (.slice A2 (keptTo b.ops ks k).length c2), .int .i64 b.fin, .int .i64 b.x, .int .i64 b.y, .int .i64 b.k] ∧ (∀ oo, w2.frozen? ⟨w.heap.size + 1 + 1 + 1, oo, none⟩ = false) ∧ FRow w2 (w.heap.size + 1 + 1) 0 (namesTo b.ops ks k ++ List.replicate (b.ops.length - k) (0 : Int))) (fun i _ => b.ops.length - (intOf i).toNat)
  case atStart => exact ⟨0, none, 0, [], [], by omega, rfl, hA0, he1, Nat.le_refl _, hBb_1, hFb_1, hBres_1, hFres_1, hBu_1, hFu_1, by simpa [namesTo] using hRn_1⟩
  case round =>
    obtain ⟨w2, hwr⟩ : ∃ w2 : World, w2 = wr := ⟨_, rfl⟩
    subst hwr
    obtain ⟨k, A2, c2, Fs, xs, hk, rfl, hA, he2, hs2, hBb_2, hFb_2, hBres_2, hFres_2, hBu_2, hFu_2, hRn_2⟩ := hrel
    have hszw : w.heap.size + 4 ≤ w2.heap.size := by omega
    by_cases hlt : k < b.ops.length
    · 
      have z0 : (0 : Int) ≤ (k : Int) := by omega
      have z1 : (k : Int) < (b.ops.length : Int) := by omega
      have z2 : (k : Int) < (ks.length : Int) := by omega
      have hkl := keptTo_length b.ops ks k
      obtain ⟨bb, off, rfl, hbo, hk0, e0, e1, e2, e3, e4⟩ := at_IrOp (h.ext he2) hlt
      have hbl : bb < w2.heap.size := hbo
      obtain ⟨bq, offq, rfl, hbq, eq⟩ := at_Bool (hkk.ext he2) (i := k) (by omega)
      have hbql : bq < w2.heap.size := hbq
      have HP := hide (namesPad_succ b.ops ks b.ops.length k hlt)
      have hin : k < (namesTo b.ops ks k ++ List.replicate (b.ops.length - k) (0 : Int)).length := by (simp [namesTo_length]; try omega)
      have yu : w.heap.size + 1 + 1 + 1 < w2.heap.size := by omega
      have xu0 := hBu_2 0 _ rfl
      have xu1 := hBu_2 1 _ rfl
      have xu2 := hBu_2 2 _ rfl
      have xu3 := hBu_2 3 _ rfl
      have xu4 := hBu_2 4 _ rfl
      have xu5 := hBu_2 5 _ rfl
      have xu6 := hBu_2 6 _ rfl
      have gc := hRn_2.int0 (i := k) (hin)
      have zgc := hRn_2.fz
      have ygc : w.heap.size + 1 + 1 < w2.heap.size := hRn_2.lt
      go_upto_region 8 with fail
      clear xu0 xu1 xu2 xu3 xu4 xu5 xu6 yu
      clear gc zgc ygc
      have hA3 := (hA.set (p := ⟨w.heap.size + 1 + 1, k, none⟩) (by show w.heap.size ≤ w.heap.size + 1 + 1; omega) (by show w.heap.size + 1 + 1 < _; omega) (.int .i64 ((keptTo b.ops ks k).length : Int))).call ((Ext.refl _).alloc (Obj.cells #[.int .i64 (b.ops[k].kind), .int .i64 (b.ops[k].x), .int .i64 (b.ops[k].y), .int .i64 (b.ops[k].k), .int .i64 (b.ops[k].at_)] 92))
      clear hA
      have he3 : Ext w ((w2.setCell ⟨w.heap.size + 1 + 1, k, none⟩ (.int .i64 ((keptTo b.ops ks k).length : Int))).alloc (Obj.cells #[.int .i64 (b.ops[k].kind), .int .i64 (b.ops[k].x), .int .i64 (b.ops[k].y), .int .i64 (b.ops[k].k), .int .i64 (b.ops[k].at_)] 92)) := (Ext.hold he2)
      have hs3 : w2.heap.size + 1 ≤ (((w2.setCell ⟨w.heap.size + 1 + 1, k, none⟩ (.int .i64 ((keptTo b.ops ks k).length : Int))).alloc (Obj.cells #[.int .i64 (b.ops[k].kind), .int .i64 (b.ops[k].x), .int .i64 (b.ops[k].y), .int .i64 (b.ops[k].k), .int .i64 (b.ops[k].at_)] 92))).heap.size := by simp
      have hq3 := hide (show (((w2.setCell ⟨w.heap.size + 1 + 1, k, none⟩ (.int .i64 ((keptTo b.ops ks k).length : Int))).alloc (Obj.cells #[.int .i64 (b.ops[k].kind), .int .i64 (b.ops[k].x), .int .i64 (b.ops[k].y), .int .i64 (b.ops[k].k), .int .i64 (b.ops[k].at_)] 92))).heap.size = w2.heap.size + 1 by simp)
      have hltn_3 : w.heap.size + 1 + 1 < w2.heap.size := hRn_2.lt
      have hBb_3 : Bx (((w2.setCell ⟨w.heap.size + 1 + 1, k, none⟩ (.int .i64 ((keptTo b.ops ks k).length : Int))).alloc (Obj.cells #[.int .i64 (b.ops[k].kind), .int .i64 (b.ops[k].x), .int .i64 (b.ops[k].y), .int .i64 (b.ops[k].k), .int .i64 (b.ops[k].at_)] 92))) (w.heap.size) [.int .i64 b.pc, .int .i64 b.len, (.slice (some ⟨bb, off, none⟩) b.ops.length cb1), .int .i64 b.fin, .int .i64 b.x, .int .i64 b.y, .int .i64 b.k] := Bx.hold hBb_2
      have hFb_3 : ∀ oo, (((w2.setCell ⟨w.heap.size + 1 + 1, k, none⟩ (.int .i64 ((keptTo b.ops ks k).length : Int))).alloc (Obj.cells #[.int .i64 (b.ops[k].kind), .int .i64 (b.ops[k].x), .int .i64 (b.ops[k].y), .int .i64 (b.ops[k].k), .int .i64 (b.ops[k].at_)] 92))).frozen? ⟨w.heap.size, oo, none⟩ = false := (fz_hold hFb_2)
      have hBres_3 : Bx (((w2.setCell ⟨w.heap.size + 1 + 1, k, none⟩ (.int .i64 ((keptTo b.ops ks k).length : Int))).alloc (Obj.cells #[.int .i64 (b.ops[k].kind), .int .i64 (b.ops[k].x), .int .i64 (b.ops[k].y), .int .i64 (b.ops[k].k), .int .i64 (b.ops[k].at_)] 92))) (w.heap.size + 1) [.int .i64 0, .int .i64 0, .slice none 0 0, .int .i64 0, .int .i64 0, .int .i64 0, .int .i64 0] := Bx.hold hBres_2
      have hFres_3 : ∀ oo, (((w2.setCell ⟨w.heap.size + 1 + 1, k, none⟩ (.int .i64 ((keptTo b.ops ks k).length : Int))).alloc (Obj.cells #[.int .i64 (b.ops[k].kind), .int .i64 (b.ops[k].x), .int .i64 (b.ops[k].y), .int .i64 (b.ops[k].k), .int .i64 (b.ops[k].at_)] 92))).frozen? ⟨w.heap.size + 1, oo, none⟩ = false := (fz_hold hFres_2)
      have hBu_3 : Bx (((w2.setCell ⟨w.heap.size + 1 + 1, k, none⟩ (.int .i64 ((keptTo b.ops ks k).length : Int))).alloc (Obj.cells #[.int .i64 (b.ops[k].kind), .int .i64 (b.ops[k].x), .int .i64 (b.ops[k].y), .int .i64 (b.ops[k].k), .int .i64 (b.ops[k].at_)] 92))) (w.heap.size + 1 + 1 + 1) [.int .i64 b.pc, .int .i64 b.len, (.slice A2 (keptTo b.ops ks k).length c2), .int .i64 b.fin, .int .i64 b.x, .int .i64 b.y, .int .i64 b.k] := Bx.hold hBu_2
      have hFu_3 : ∀ oo, (((w2.setCell ⟨w.heap.size + 1 + 1, k, none⟩ (.int .i64 ((keptTo b.ops ks k).length : Int))).alloc (Obj.cells #[.int .i64 (b.ops[k].kind), .int .i64 (b.ops[k].x), .int .i64 (b.ops[k].y), .int .i64 (b.ops[k].k), .int .i64 (b.ops[k].at_)] 92))).frozen? ⟨w.heap.size + 1 + 1 + 1, oo, none⟩ = false := (fz_hold hFu_2)
      have hRn_3 : FRow (((w2.setCell ⟨w.heap.size + 1 + 1, k, none⟩ (.int .i64 ((keptTo b.ops ks k).length : Int))).alloc (Obj.cells #[.int .i64 (b.ops[k].kind), .int .i64 (b.ops[k].x), .int .i64 (b.ops[k].y), .int .i64 (b.ops[k].k), .int .i64 (b.ops[k].at_)] 92))) (w.heap.size + 1 + 1) 0 (namesTo b.ops ks (k + 1) ++ List.replicate (b.ops.length - (k + 1)) (0 : Int)) := (by have := (hRn_2.setInt0 hin ((keptTo b.ops ks k).length : Int) (fits_small (by omega) (by omega))).alloc (Obj.cells #[.int .i64 (b.ops[k].kind), .int .i64 (b.ops[k].x), .int .i64 (b.ops[k].y), .int .i64 (b.ops[k].k), .int .i64 (b.ops[k].at_)] 92); rwa [HP.out] at this)
      have hBo_3 : Bx (((w2.setCell ⟨w.heap.size + 1 + 1, k, none⟩ (.int .i64 ((keptTo b.ops ks k).length : Int))).alloc (Obj.cells #[.int .i64 (b.ops[k].kind), .int .i64 (b.ops[k].x), .int .i64 (b.ops[k].y), .int .i64 (b.ops[k].k), .int .i64 (b.ops[k].at_)] 92))) (w2.heap.size) [.int .i64 (b.ops[k].kind), .int .i64 (b.ops[k].x), .int .i64 (b.ops[k].y), .int .i64 (b.ops[k].k), .int .i64 (b.ops[k].at_)] := (by have := Bx.new (w2.setCell ⟨w.heap.size + 1 + 1, k, none⟩ (.int .i64 ((keptTo b.ops ks k).length : Int))) #[.int .i64 (b.ops[k].kind), .int .i64 (b.ops[k].x), .int .i64 (b.ops[k].y), .int .i64 (b.ops[k].k), .int .i64 (b.ops[k].at_)] 92; simpa using this)
      have hFo_3 : ∀ oo, (((w2.setCell ⟨w.heap.size + 1 + 1, k, none⟩ (.int .i64 ((keptTo b.ops ks k).length : Int))).alloc (Obj.cells #[.int .i64 (b.ops[k].kind), .int .i64 (b.ops[k].x), .int .i64 (b.ops[k].y), .int .i64 (b.ops[k].k), .int .i64 (b.ops[k].at_)] 92))).frozen? ⟨w2.heap.size, oo, none⟩ = false := by first | (exact fz_new _ _ _ (by first | rfl | simp)) | (intro oo; simp)
      generalize ((w2.setCell ⟨w.heap.size + 1 + 1, k, none⟩ (.int .i64 ((keptTo b.ops ks k).length : Int))).alloc (Obj.cells #[.int .i64 (b.ops[k].kind), .int .i64 (b.ops[k].x), .int .i64 (b.ops[k].y), .int .i64 (b.ops[k].k), .int .i64 (b.ops[k].at_)] 92)) = w3 at *
      clear hBb_2 hFb_2 hBres_2 hFres_2 hBu_2 hFu_2 hRn_2
      clear e0 e1 e2 e3 e4 hbo hbl hbq hbql eq
      obtain ⟨bq2, offq2, hq2, hbq2, eq2⟩ := at_Bool (hkk.ext he3) (i := k) (by omega)
      injection hq2 with hq2
      injection hq2 with hq3 hq4
      subst hq3 hq4
      cases hkq : ks[k]
      · 
        rw [hkq] at eq2
        have HN := hide (keptTo_no b.ops ks k (by rw [gB_at _ _ (by omega)]; exact hkq))
        go_wp2_with fail
        go_roundw
        case rel => exact ⟨k + 1, A2, c2, Fs, xs, by omega, by go_num, (by rw [HN.out]; exact hA3), (Ext.hold he3), (by first | omega | (simp; done) | (simp; omega)), (Bx.hold hBb_3), (fz_hold hFb_3), (Bx.hold hBres_3), (fz_hold hFres_3), (by rw [HN.out]; exact hBu_3), (fz_hold hFu_3), hRn_3⟩
        case measure => (simp [intOf]; try omega)
      · 
        rw [hkq] at eq2
        have HN := hide (keptTo_yes b.ops ks k hlt (by rw [gB_at _ _ (by omega)]; exact hkq))
        have yu : w.heap.size + 1 + 1 + 1 < w3.heap.size := by omega
        have xu0 := hBu_3 0 _ rfl
        have xu1 := hBu_3 1 _ rfl
        have xu2 := hBu_3 2 _ rfl
        have xu3 := hBu_3 3 _ rfl
        have xu4 := hBu_3 4 _ rfl
        have xu5 := hBu_3 5 _ rfl
        have xu6 := hBu_3 6 _ rfl
        have yo : w2.heap.size < w3.heap.size := by omega
        have xo0 := hBo_3 0 _ rfl
        have xo1 := hBo_3 1 _ rfl
        have xo2 := hBo_3 2 _ rfl
        have xo3 := hBo_3 3 _ rfl
        have xo4 := hBo_3 4 _ rfl
        have fu := hFu_3
        go_wp2_with (at_builtin; refine wpList_append_push2 (w0 := w) (wr := w3) rfl _ _ 28 rfl i0 _ 40 Try.underlying28 HI.out HZ0.out HZ1.out HZ2.out rfl (by decide) hA3.app rfl b.ops[k] #[.int .i64 (b.ops[k].kind), .int .i64 (b.ops[k].x), .int .i64 (b.ops[k].y), .int .i64 (b.ops[k].k), .int .i64 (b.ops[k].at_)] 92 [] _ rfl (Ext.refl _) ⟨rfl, hk0, rfl⟩ (Fr.nil _ _) (by repeat (first | (exact fun _ h => absurd h (List.not_mem_nil)) | (refine List.forall_mem_cons.2 ⟨rfl, ?_⟩))) (by unfold maxLen; omega) (by omega) ?_; intro v' w9 xs' hA9 hg9 hb9; have hP := FApp.push hA3 hA9 (by simp; omega) hb9; rw [← HN.out] at hP; obtain ⟨g9, cap9, rfl, hc9, hm9, hl9, hR9⟩ := hP.app.toRow (by rw [HN.out]; simp); have hA9 := hP.app; have hBu9 := (Bx.alloc hBu_3 (by omega) #[.int .i64 (b.ops[k].kind), .int .i64 (b.ops[k].x), .int .i64 (b.ops[k].y), .int .i64 (b.ops[k].k), .int .i64 (b.ops[k].at_)] 92).grown hg9 (by simp; omega) (hA3.ne (by omega)); have xu9 := hBu9 2 _ rfl; have fu9 := fz_grown (fz_alloc hFu_3 (by omega) (.cells #[.int .i64 (b.ops[k].kind), .int .i64 (b.ops[k].x), .int .i64 (b.ops[k].y), .int .i64 (b.ops[k].k), .int .i64 (b.ops[k].at_)] 92)) hg9 (by simp; omega) (hA3.ne (by omega)); have yu9 := cell_lt xu9)
        have hkl9 := keptTo_length b.ops ks (k + 1)
        have hsz9 : w3.heap.size ≤ w9.heap.size := by have := hg9.size; simp at this; omega
        go_roundw
        case rel => exact ⟨k + 1, some ⟨g9, 0, none⟩, cap9, Fs ++ [[]], xs', by omega, by go_num, (hP.set (p := ⟨w.heap.size + 1 + 1 + 1, 2, none⟩) (by show w.heap.size ≤ w.heap.size + 1 + 1 + 1; omega) (by show w.heap.size + 1 + 1 + 1 < _; omega) _), (hA9.ext.setCell (by show w.heap.size ≤ w.heap.size + 1 + 1 + 1; omega) _), (by simp; omega), (Bx.setCell ((Bx.alloc hBb_3 (by omega) #[.int .i64 (b.ops[k].kind), .int .i64 (b.ops[k].x), .int .i64 (b.ops[k].y), .int .i64 (b.ops[k].k), .int .i64 (b.ops[k].at_)] 92).grown hg9 (by simp; omega) (hA3.ne (by omega))) (by show w.heap.size + 1 + 1 + 1 ≠ w.heap.size; omega) _), (fz_set (fz_grown (fz_alloc hFb_3 (by omega) (.cells #[.int .i64 (b.ops[k].kind), .int .i64 (b.ops[k].x), .int .i64 (b.ops[k].y), .int .i64 (b.ops[k].k), .int .i64 (b.ops[k].at_)] 92)) hg9 (by simp; omega) (hA3.ne (by omega))) _ _), (Bx.setCell ((Bx.alloc hBres_3 (by omega) #[.int .i64 (b.ops[k].kind), .int .i64 (b.ops[k].x), .int .i64 (b.ops[k].y), .int .i64 (b.ops[k].k), .int .i64 (b.ops[k].at_)] 92).grown hg9 (by simp; omega) (hA3.ne (by omega))) (by show w.heap.size + 1 + 1 + 1 ≠ w.heap.size + 1; omega) _), (fz_set (fz_grown (fz_alloc hFres_3 (by omega) (.cells #[.int .i64 (b.ops[k].kind), .int .i64 (b.ops[k].x), .int .i64 (b.ops[k].y), .int .i64 (b.ops[k].k), .int .i64 (b.ops[k].at_)] 92)) hg9 (by simp; omega) (hA3.ne (by omega))) _ _), (by have := Bx.put hBu9 (j := 2) (by simp) (.slice (some ⟨g9, 0, none⟩) (keptTo b.ops ks (k + 1)).length cap9); simpa using this), (fz_set fu9 _ _), (FRow.far ((hRn_3.alloc (Obj.cells #[.int .i64 (b.ops[k].kind), .int .i64 (b.ops[k].x), .int .i64 (b.ops[k].y), .int .i64 (b.ops[k].k), .int .i64 (b.ops[k].at_)] 92)).grown hg9 (hA3.ne (by omega))) (by show w.heap.size + 1 + 1 + 1 ≠ w.heap.size + 1 + 1; omega) _)⟩
        case measure => (simp [intOf]; try omega)
    · 
      obtain rfl : k = b.ops.length := by omega
      rw [Nat.sub_self, List.replicate_zero, List.append_nil] at hRn_2
      clear hRn_1 hBu_1 hBres_1 hBb_1 hA0
      generalize hN : namesTo b.ops ks b.ops.length = N at *
      have hNl : N.length = b.ops.length := by rw [← hN]; exact namesTo_length _ _ _
      have hDB : dropB b ks = renEnd N b ((keptTo b.ops ks b.ops.length).map (ren N)) := by rw [← hN]; rfl
      have hkb := keptTo_below hok ks b.ops.length (Nat.le_refl _)
      have hkm := keptTo_mem b.ops ks b.ops.length
      generalize hK : keptTo b.ops ks b.ops.length = K at *
      have hX := fun q => end_x (ok_end hok) q
      have hY := fun q => end_y (ok_end hok) q
      rw [← hNl] at hX hY hkb
      have HNL := hide hNl
      have HDB := hide hDB
      clear hN hK hNl hDB
      go_wp2_with fail
      by_cases hK0 : K = []
      · 
        subst hK0
        obtain ⟨F0, hO0, -⟩ := hA.app.done
        obtain ⟨A', c', h1, h2, h3, h0, -, -⟩ := hO0
        injection h1 with h1 h11 h12
        subst h1 h12
        have hcall := rename0_any ⟨b.pc, b.len, [], b.fin, b.x, b.y, b.k⟩ N (w.heap.size + 1 + 1 + 1) (w.heap.size + 1 + 1) A2 c2 b.ops.length w2 rfl hBu_2 hFu_2 (by omega) hRn_2 (by omega) (by rw [HNL.out]; exact Nat.le_refl _) (by unfold maxLen; omega) h0 h3 hX hY
        rw [HNL.out] at hcall
        refine hcall.mono ?_
        rintro e w9 ⟨rfl, hch, hB9⟩
        have he3 : Ext w w9 := Chg.ext he2 hch (fun x hx => by simp at hx; omega)
        have hs3 := hch.size
        have hBres_3 := hBres_2.chg hch (by omega) (by first | (simp; done) | (simp; omega))
        have hFres_3 := fun oo => (hch.frozen (w.heap.size + 1) oo (by omega)).trans (hFres_2 oo)
        have hBu_3 : Bx w9 (w.heap.size + 1 + 1 + 1) [.int .i64 ((dropB b ks).pc), .int .i64 ((dropB b ks).len), (.slice A2 0 c2), .int .i64 ((dropB b ks).fin), .int .i64 ((dropB b ks).x), .int .i64 ((dropB b ks).y), .int .i64 ((dropB b ks).k)] := by rw [HDB.out]; exact hB9
        clear hBres_2 hFres_2 hBu_2 hB9 hcall
        obtain ⟨w3, hw9⟩ : ∃ w3 : World, w3 = w9 := ⟨_, rfl⟩
        subst hw9
        have yu : w.heap.size + 1 + 1 + 1 < w3.heap.size := by omega
        have xu0 := hBu_3 0 _ rfl
        have xu1 := hBu_3 1 _ rfl
        have xu2 := hBu_3 2 _ rfl
        have xu3 := hBu_3 3 _ rfl
        have xu4 := hBu_3 4 _ rfl
        have xu5 := hBu_3 5 _ rfl
        have xu6 := hBu_3 6 _ rfl
        have yres : w.heap.size + 1 < w3.heap.size := by omega
        have xres0 := hBres_3 0 _ rfl
        have xres1 := hBres_3 1 _ rfl
        have xres2 := hBres_3 2 _ rfl
        have xres3 := hBres_3 3 _ rfl
        have xres4 := hBres_3 4 _ rfl
        have xres5 := hBres_3 5 _ rfl
        have xres6 := hBres_3 6 _ rfl
        have fres := hFres_3
        go_wp2
        have hF : Fr w1 w3 ([] : List Nat) := Fr.nil _ _
        refine bodyPost_ret (v := .agg #[.int .i64 ((dropB b ks).pc), .int .i64 ((dropB b ks).len), (.slice A2 0 c2), .int .i64 ((dropB b ks).fin), .int .i64 ((dropB b ks).x), .int .i64 ((dropB b ks).y), .int .i64 ((dropB b ks).k)]) (by simp [results, Try.results101, go_sem, xres0, xres1, xres2, xres3, xres4, xres5, xres6]) rfl ⟨_, [], rfl, ?_, ?_, ?_⟩
        · rw [HDB.out]; exact ⟨_, c2, rfl, Nat.zero_le _, h3, h0, fun _ => rfl, fun h => absurd rfl h⟩
        · exact Fr.nil _ _
        · exact (Ext.hold he3)
      · 
        obtain ⟨g9, cap9, hv, hc9, hm9, hl9, hR9⟩ := hA.app.toRow (by cases K with | nil => exact absurd rfl hK0 | cons a l => simp)
        injection hv with hv1 hv2 hv3
        subst hv1 hv3
        have hlow := hA.low g9 rfl
        have hcall := rename_any ⟨b.pc, b.len, K, b.fin, b.x, b.y, b.k⟩ N (w.heap.size + 1 + 1 + 1) g9 0 (w.heap.size + 1 + 1) c2 b.ops.length w2 hBu_2 hFu_2 (by omega) hR9 hRn_2 (by omega) (by omega) (by omega) hc9 hm9 (by rw [HNL.out]; exact Nat.le_refl _) (by unfold maxLen; omega) (fun o ho => by obtain ⟨i, hi, rfl⟩ := List.getElem_of_mem (hkm o ho); exact op_kind (ok_ops hok i hi)) hkb hX hY
        rw [HNL.out] at hcall
        refine hcall.mono ?_
        rintro e w9 ⟨rfl, hch, hB9, hR99⟩
        have he3 : Ext w w9 := Chg.ext he2 hch (fun x hx => by simp at hx; omega)
        have hs3 := hch.size
        have hBres_3 := hBres_2.chg hch (by omega) (by first | (simp; done) | (simp; omega))
        have hFres_3 := fun oo => (hch.frozen (w.heap.size + 1) oo (by omega)).trans (hFres_2 oo)
        have hBu_3 : Bx w9 (w.heap.size + 1 + 1 + 1) [.int .i64 ((dropB b ks).pc), .int .i64 ((dropB b ks).len), (.slice (some ⟨g9, 0, none⟩) K.length c2), .int .i64 ((dropB b ks).fin), .int .i64 ((dropB b ks).x), .int .i64 ((dropB b ks).y), .int .i64 ((dropB b ks).k)] := by rw [HDB.out]; exact hB9
        clear hBres_2 hFres_2 hBu_2 hB9 hcall
        obtain ⟨w3, hw9⟩ : ∃ w3 : World, w3 = w9 := ⟨_, rfl⟩
        subst hw9
        have yu : w.heap.size + 1 + 1 + 1 < w3.heap.size := by omega
        have xu0 := hBu_3 0 _ rfl
        have xu1 := hBu_3 1 _ rfl
        have xu2 := hBu_3 2 _ rfl
        have xu3 := hBu_3 3 _ rfl
        have xu4 := hBu_3 4 _ rfl
        have xu5 := hBu_3 5 _ rfl
        have xu6 := hBu_3 6 _ rfl
        have yres : w.heap.size + 1 < w3.heap.size := by omega
        have xres0 := hBres_3 0 _ rfl
        have xres1 := hBres_3 1 _ rfl
        have xres2 := hBres_3 2 _ rfl
        have xres3 := hBres_3 3 _ rfl
        have xres4 := hBres_3 4 _ rfl
        have xres5 := hBres_3 5 _ rfl
        have xres6 := hBres_3 6 _ rfl
        have fres := hFres_3
        go_wp2
        obtain ⟨F, ho, hf⟩ := hR99.own (w0 := w1) (n := K.length) (c := c2) (by simp) (by simpa using hc9) hm9 (by have := hq1.out; omega)
        refine bodyPost_ret (v := .agg #[.int .i64 ((dropB b ks).pc), .int .i64 ((dropB b ks).len), (.slice (some ⟨g9, 0, none⟩) K.length c2), .int .i64 ((dropB b ks).fin), .int .i64 ((dropB b ks).x), .int .i64 ((dropB b ks).y), .int .i64 ((dropB b ks).k)]) (by simp [results, Try.results101, go_sem, xres0, xres1, xres2, xres3, xres4, xres5, xres6]) rfl ⟨_, F, rfl, ?_, ?_, ?_⟩
        · rw [HDB.out]
          exact OwnSl.stay ho (fun b hb => by
            have q := hf.2 b hb; have q1 := q.1; have q2 := q.2; have q3 := hq1.out
            repeat (first | rw [heap_set _ _ _ _ (by simp; omega)]))
        · exact hf.mk1 (by omega) (by simp)
        · exact (Ext.hold he3)

end Go.Proofs.Ytjemadbhpbbhlaa
