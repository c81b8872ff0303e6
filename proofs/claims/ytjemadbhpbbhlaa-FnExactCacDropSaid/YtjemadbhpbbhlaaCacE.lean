/-
  Cache entries and lists of them are copied into fresh memory: the program and the reference.
-/
import Derived.Test.YtjemadbhpbbhlaaClone
import Derived.Test.YtjemadbhpbbhlaaRegLib
import Derived.Test.YtjemadbhpbbhlaaCertLib
namespace Go.Proofs.Ytjemadbhpbbhlaa
open Go.RowKit

set_option linter.unusedVariables false
set_option linter.unusedSimpArgs false
set_option maxRecDepth 100000

set_option maxHeartbeats 4000000 in
theorem cloneEntry_any (o : CacEntry) (vo1 vo2 : Value) (w : World) (ho1 : Sl w (Old w) vo1 o.words) (ho2 : Sl w (Old w) vo2 o.block.ops) (hn1 : o.words.length ≤ 4194304) (hn2 : o.block.ops.length ≤ 4194304) :
    Calls Try.prog 137 #[.agg #[vo1, .int .i64 o.block.pc, .int .i64 o.block.len, vo2, .int .i64 o.block.fin, .int .i64 o.block.x, .int .i64 o.block.y, .int .i64 o.block.k]] w fun e w' => ∃ (r1 r2 : Value) (F1 F2 : List Nat), e = .returned (.agg #[r1, .int .i64 o.block.pc, .int .i64 o.block.len, r2, .int .i64 o.block.fin, .int .i64 o.block.x, .int .i64 o.block.y, .int .i64 o.block.k]) ∧ OwnSl w' r1 o.words F1 ∧ OwnSl w' r2 o.block.ops F2 ∧ Fr w w' (F1 ++ F2) ∧ Ext w w' := by
  obtain ⟨Ao1, co1, rfl, hlo1, hmo1⟩ := ho1.form
  obtain ⟨Ao2, co2, rfl, hlo2, hmo2⟩ := ho2.form
  go_enter Try.func137, Try.ntmps137
  go_wp2_with fail
  have he0 : Ext w ((w.alloc (Obj.cells #[(.slice Ao1 o.words.length co1), .int .i64 o.block.pc, .int .i64 o.block.len, (.slice Ao2 o.block.ops.length co2), .int .i64 o.block.fin, .int .i64 o.block.x, .int .i64 o.block.y, .int .i64 o.block.k] 72)).alloc (Obj.cells #[.slice none 0 0, .int .i64 0, .int .i64 0, .slice none 0 0, .int .i64 0, .int .i64 0, .int .i64 0, .int .i64 0] 72)) := (Ext.auto)
  have hs0 : w.heap.size + 2 ≤ (((w.alloc (Obj.cells #[(.slice Ao1 o.words.length co1), .int .i64 o.block.pc, .int .i64 o.block.len, (.slice Ao2 o.block.ops.length co2), .int .i64 o.block.fin, .int .i64 o.block.x, .int .i64 o.block.y, .int .i64 o.block.k] 72)).alloc (Obj.cells #[.slice none 0 0, .int .i64 0, .int .i64 0, .slice none 0 0, .int .i64 0, .int .i64 0, .int .i64 0, .int .i64 0] 72))).heap.size := by simp
  have hq0 := hide (show (((w.alloc (Obj.cells #[(.slice Ao1 o.words.length co1), .int .i64 o.block.pc, .int .i64 o.block.len, (.slice Ao2 o.block.ops.length co2), .int .i64 o.block.fin, .int .i64 o.block.x, .int .i64 o.block.y, .int .i64 o.block.k] 72)).alloc (Obj.cells #[.slice none 0 0, .int .i64 0, .int .i64 0, .slice none 0 0, .int .i64 0, .int .i64 0, .int .i64 0, .int .i64 0] 72))).heap.size = w.heap.size + 2 by simp)
  have hBo_0 : Bx ((w.alloc (Obj.cells #[(.slice Ao1 o.words.length co1), .int .i64 o.block.pc, .int .i64 o.block.len, (.slice Ao2 o.block.ops.length co2), .int .i64 o.block.fin, .int .i64 o.block.x, .int .i64 o.block.y, .int .i64 o.block.k] 72)).alloc (Obj.cells #[.slice none 0 0, .int .i64 0, .int .i64 0, .slice none 0 0, .int .i64 0, .int .i64 0, .int .i64 0, .int .i64 0] 72)) (w.heap.size) [(.slice Ao1 o.words.length co1), .int .i64 o.block.pc, .int .i64 o.block.len, (.slice Ao2 o.block.ops.length co2), .int .i64 o.block.fin, .int .i64 o.block.x, .int .i64 o.block.y, .int .i64 o.block.k] := (by have := (Bx.alloc (Bx.new w #[(.slice Ao1 o.words.length co1), .int .i64 o.block.pc, .int .i64 o.block.len, (.slice Ao2 o.block.ops.length co2), .int .i64 o.block.fin, .int .i64 o.block.x, .int .i64 o.block.y, .int .i64 o.block.k] 72) (by simp) #[.slice none 0 0, .int .i64 0, .int .i64 0, .slice none 0 0, .int .i64 0, .int .i64 0, .int .i64 0, .int .i64 0] 72); simpa using this)
  have hFo_0 : ∀ oo, (((w.alloc (Obj.cells #[(.slice Ao1 o.words.length co1), .int .i64 o.block.pc, .int .i64 o.block.len, (.slice Ao2 o.block.ops.length co2), .int .i64 o.block.fin, .int .i64 o.block.x, .int .i64 o.block.y, .int .i64 o.block.k] 72)).alloc (Obj.cells #[.slice none 0 0, .int .i64 0, .int .i64 0, .slice none 0 0, .int .i64 0, .int .i64 0, .int .i64 0, .int .i64 0] 72))).frozen? ⟨w.heap.size, oo, none⟩ = false := fun oo => by simp
  have hBres_0 : Bx ((w.alloc (Obj.cells #[(.slice Ao1 o.words.length co1), .int .i64 o.block.pc, .int .i64 o.block.len, (.slice Ao2 o.block.ops.length co2), .int .i64 o.block.fin, .int .i64 o.block.x, .int .i64 o.block.y, .int .i64 o.block.k] 72)).alloc (Obj.cells #[.slice none 0 0, .int .i64 0, .int .i64 0, .slice none 0 0, .int .i64 0, .int .i64 0, .int .i64 0, .int .i64 0] 72)) (w.heap.size + 1) [.slice none 0 0, .int .i64 0, .int .i64 0, .slice none 0 0, .int .i64 0, .int .i64 0, .int .i64 0, .int .i64 0] := (by have := (Bx.new (w.alloc (Obj.cells #[(.slice Ao1 o.words.length co1), .int .i64 o.block.pc, .int .i64 o.block.len, (.slice Ao2 o.block.ops.length co2), .int .i64 o.block.fin, .int .i64 o.block.x, .int .i64 o.block.y, .int .i64 o.block.k] 72)) #[.slice none 0 0, .int .i64 0, .int .i64 0, .slice none 0 0, .int .i64 0, .int .i64 0, .int .i64 0, .int .i64 0] 72); simpa using this)
  have hFres_0 : ∀ oo, (((w.alloc (Obj.cells #[(.slice Ao1 o.words.length co1), .int .i64 o.block.pc, .int .i64 o.block.len, (.slice Ao2 o.block.ops.length co2), .int .i64 o.block.fin, .int .i64 o.block.x, .int .i64 o.block.y, .int .i64 o.block.k] 72)).alloc (Obj.cells #[.slice none 0 0, .int .i64 0, .int .i64 0, .slice none 0 0, .int .i64 0, .int .i64 0, .int .i64 0, .int .i64 0] 72))).frozen? ⟨w.heap.size + 1, oo, none⟩ = false := fun oo => by simp
  generalize ((w.alloc (Obj.cells #[(.slice Ao1 o.words.length co1), .int .i64 o.block.pc, .int .i64 o.block.len, (.slice Ao2 o.block.ops.length co2), .int .i64 o.block.fin, .int .i64 o.block.x, .int .i64 o.block.y, .int .i64 o.block.k] 72)).alloc (Obj.cells #[.slice none 0 0, .int .i64 0, .int .i64 0, .slice none 0 0, .int .i64 0, .int .i64 0, .int .i64 0, .int .i64 0] 72)) = w0 at *
  have yo : w.heap.size < w0.heap.size := by omega
  have xo0 := hBo_0 0 _ rfl
  have xo1 := hBo_0 1 _ rfl
  have xo2 := hBo_0 2 _ rfl
  have xo3 := hBo_0 3 _ rfl
  have xo4 := hBo_0 4 _ rfl
  have xo5 := hBo_0 5 _ rfl
  have xo6 := hBo_0 6 _ rfl
  have xo7 := hBo_0 7 _ rfl
  go_wp2_with fail
  have hS : ∀ w', Ext w0 w' → ∀ bb oo, bb < w0.heap.size → w'.cell? ⟨bb, oo, none⟩ = w0.cell? ⟨bb, oo, none⟩ := fun w' hx bb oo hb => hx.cell hb
  refine wp_region_plan (fun w' => Ext w0 w') 5 (.float 0 (.float 1 (.float 3 (.float 4 (.chain 2 (.tail 5)))))) (by kernel_rfl) (by kernel_rfl) (Ext.refl _).drew ?_
  iterate 4 ((refine Plan.float_step (v := ?_) rfl (by rfl) (fun _ _ _ h => h) (fun w' hSw => ?_) ?_; rotate_left; · (go_simp; try with_reducible rfl)); (try simp only [Act.put, List.setIfInBounds_toArray, List.set_cons_zero, List.set_cons_succ]))
  refine Plan.chain_step rfl (fun K hK => ?_)
  go_simp
  refine (cloneInts_any o.words _ _ (ho1.ext (Ext.trans he0 (Ext.auto))) hn1).mono ?_
  rintro e w1 ⟨r1, F1, rfl, hr1, hf1, hy⟩
  refine hK.out _ _ (Ext.trans (Ext.auto) hy) ?_
  clear hK
  (try simp only [Act.put, List.setIfInBounds_toArray, List.set_cons_zero, List.set_cons_succ])
  have hx1 : Ext w0 w1 := Ext.trans (Ext.auto) hy
  have hs1 := hx1.size
  have he1 : Ext w w1 := he0.trans hx1
  have hBo_1 : Bx w1 (w.heap.size) [(.slice Ao1 o.words.length co1), .int .i64 o.block.pc, .int .i64 o.block.len, (.slice Ao2 o.block.ops.length co2), .int .i64 o.block.fin, .int .i64 o.block.x, .int .i64 o.block.y, .int .i64 o.block.k] := hx1.bx hBo_0 (by omega)
  have hFo_1 : ∀ oo, w1.frozen? ⟨w.heap.size, oo, none⟩ = false := fun oo => (hx1.frozen (by omega)).trans (hFo_0 oo)
  have hBres_1 : Bx w1 (w.heap.size + 1) [.slice none 0 0, .int .i64 0, .int .i64 0, .slice none 0 0, .int .i64 0, .int .i64 0, .int .i64 0, .int .i64 0] := hx1.bx hBres_0 (by omega)
  have hFres_1 : ∀ oo, w1.frozen? ⟨w.heap.size + 1, oo, none⟩ = false := fun oo => (hx1.frozen (by omega)).trans (hFres_0 oo)
  clear hBo_0 hFo_0 hBres_0 hFres_0
  clear hy
  refine Plan.tail_step ?_
  simp only [List.drop_succ_cons, List.drop_zero]
  clear hS
  clear xo0 xo1 xo2 xo3 xo4 xo5 xo6 xo7 yo
  go_wp2_with fail
  refine (cloneBlock_any o.block _ _ (ho2.ext he1) hn2).mono ?_
  rintro e w2 ⟨r2, F2, rfl, hr2, hf2, hy⟩
  have hx2 : Ext w1 w2 := Ext.trans (Ext.auto) hy
  have hs2 := hx2.size
  have he2 : Ext w w2 := he1.trans hx2
  have hBo_2 : Bx w2 (w.heap.size) [(.slice Ao1 o.words.length co1), .int .i64 o.block.pc, .int .i64 o.block.len, (.slice Ao2 o.block.ops.length co2), .int .i64 o.block.fin, .int .i64 o.block.x, .int .i64 o.block.y, .int .i64 o.block.k] := hx2.bx hBo_1 (by omega)
  have hFo_2 : ∀ oo, w2.frozen? ⟨w.heap.size, oo, none⟩ = false := fun oo => (hx2.frozen (by omega)).trans (hFo_1 oo)
  have hBres_2 : Bx w2 (w.heap.size + 1) [.slice none 0 0, .int .i64 0, .int .i64 0, .slice none 0 0, .int .i64 0, .int .i64 0, .int .i64 0, .int .i64 0] := hx2.bx hBres_1 (by omega)
  have hFres_2 : ∀ oo, w2.frozen? ⟨w.heap.size + 1, oo, none⟩ = false := fun oo => (hx2.frozen (by omega)).trans (hFres_1 oo)
  clear hBo_1 hFo_1 hBres_1 hFres_1
  clear hy
  obtain ⟨B1, d1, rfl, -, -⟩ := hr1.sl.form
  obtain ⟨B2, d2, rfl, -, -⟩ := hr2.sl.form
  have yres : w.heap.size + 1 < w2.heap.size := by omega
  have xres0 := hBres_2 0 _ rfl
  have xres1 := hBres_2 1 _ rfl
  have xres2 := hBres_2 2 _ rfl
  have xres3 := hBres_2 3 _ rfl
  have xres4 := hBres_2 4 _ rfl
  have xres5 := hBres_2 5 _ rfl
  have xres6 := hBres_2 6 _ rfl
  have xres7 := hBres_2 7 _ rfl
  have fres := hFres_2
  go_wp2
  refine bodyPost_ret (v := .agg #[(.slice B1 o.words.length d1), .int .i64 o.block.pc, .int .i64 o.block.len, (.slice B2 o.block.ops.length d2), .int .i64 o.block.fin, .int .i64 o.block.x, .int .i64 o.block.y, .int .i64 o.block.k]) (by simp [results, Try.results137, go_sem, xres0, xres1, xres2, xres3, xres4, xres5, xres6, xres7]) rfl ⟨_, _, F1, F2, rfl, ?_, ?_, ?_, ?_⟩
  · exact OwnSl.stay hr1 (fun b hb => by
      have q := hf1.2 b hb; have q1 := q.1; have q2 := q.2; (try simp at q1 q2)
      repeat (first | rw [heap_set _ _ _ _ (by simp; omega)] | rw [Ext.heap hx2 (by omega)]))
  · exact OwnSl.stay hr2 (fun b hb => by
      have q := hf2.2 b hb; have q1 := q.1; have q2 := q.2; (try simp at q1 q2)
      repeat (first | rw [heap_set _ _ _ _ (by simp; omega)] | rw [Ext.heap (Ext.refl _) (by omega)]))
  · exact Fr.mk2 hf1 hf2 (by first | omega | (simp; done) | (simp; omega)) (by first | omega | (simp; done) | (simp; omega)) (by first | omega | (simp; done) | (simp; omega)) (by first | omega | (simp; done) | (simp; omega)) (by first | omega | (simp; done) | (simp; omega))
  · exact (Ext.hold he2)

set_option maxHeartbeats 4000000 in
theorem l12Entry_any (o : CacEntry) (vo1 vo2 : Value) (w : World) (ho1 : Sl w (Old w) vo1 o.words) (ho2 : Sl w (Old w) vo2 o.block.ops) (hn1 : o.words.length ≤ 4194304) (hn2 : o.block.ops.length ≤ 4194304) :
    Calls Try.prog 103 #[.agg #[vo1, .int .i64 o.block.pc, .int .i64 o.block.len, vo2, .int .i64 o.block.fin, .int .i64 o.block.x, .int .i64 o.block.y, .int .i64 o.block.k]] w fun e w' => ∃ (r1 r2 : Value) (F1 F2 : List Nat), e = .returned (.agg #[r1, .int .i64 o.block.pc, .int .i64 o.block.len, r2, .int .i64 o.block.fin, .int .i64 o.block.x, .int .i64 o.block.y, .int .i64 o.block.k]) ∧ OwnSl w' r1 o.words F1 ∧ OwnSl w' r2 o.block.ops F2 ∧ Fr w w' (F1 ++ F2) ∧ Ext w w' := by
  obtain ⟨Ao1, co1, rfl, hlo1, hmo1⟩ := ho1.form
  obtain ⟨Ao2, co2, rfl, hlo2, hmo2⟩ := ho2.form
  obtain ⟨i0, hi, hz0, hz1, hz2⟩ := info_parts infInt
  have HI := hide hi
  have HZ0 := hide hz0
  have HZ1 := hide hz1
  have HZ2 := hide hz2
  clear hi hz0 hz1 hz2
  go_enter Try.func103, Try.ntmps103
  go_wp2_with fail
  have he0 : Ext w ((w.alloc (Obj.cells #[(.slice Ao1 o.words.length co1), .int .i64 o.block.pc, .int .i64 o.block.len, (.slice Ao2 o.block.ops.length co2), .int .i64 o.block.fin, .int .i64 o.block.x, .int .i64 o.block.y, .int .i64 o.block.k] 72)).alloc (Obj.cells #[.slice none 0 0, .int .i64 0, .int .i64 0, .slice none 0 0, .int .i64 0, .int .i64 0, .int .i64 0, .int .i64 0] 72)) := (Ext.auto)
  have hs0 : w.heap.size + 2 ≤ (((w.alloc (Obj.cells #[(.slice Ao1 o.words.length co1), .int .i64 o.block.pc, .int .i64 o.block.len, (.slice Ao2 o.block.ops.length co2), .int .i64 o.block.fin, .int .i64 o.block.x, .int .i64 o.block.y, .int .i64 o.block.k] 72)).alloc (Obj.cells #[.slice none 0 0, .int .i64 0, .int .i64 0, .slice none 0 0, .int .i64 0, .int .i64 0, .int .i64 0, .int .i64 0] 72))).heap.size := by simp
  have hq0 := hide (show (((w.alloc (Obj.cells #[(.slice Ao1 o.words.length co1), .int .i64 o.block.pc, .int .i64 o.block.len, (.slice Ao2 o.block.ops.length co2), .int .i64 o.block.fin, .int .i64 o.block.x, .int .i64 o.block.y, .int .i64 o.block.k] 72)).alloc (Obj.cells #[.slice none 0 0, .int .i64 0, .int .i64 0, .slice none 0 0, .int .i64 0, .int .i64 0, .int .i64 0, .int .i64 0] 72))).heap.size = w.heap.size + 2 by simp)
  have hBo_0 : Bx ((w.alloc (Obj.cells #[(.slice Ao1 o.words.length co1), .int .i64 o.block.pc, .int .i64 o.block.len, (.slice Ao2 o.block.ops.length co2), .int .i64 o.block.fin, .int .i64 o.block.x, .int .i64 o.block.y, .int .i64 o.block.k] 72)).alloc (Obj.cells #[.slice none 0 0, .int .i64 0, .int .i64 0, .slice none 0 0, .int .i64 0, .int .i64 0, .int .i64 0, .int .i64 0] 72)) (w.heap.size) [(.slice Ao1 o.words.length co1), .int .i64 o.block.pc, .int .i64 o.block.len, (.slice Ao2 o.block.ops.length co2), .int .i64 o.block.fin, .int .i64 o.block.x, .int .i64 o.block.y, .int .i64 o.block.k] := (by have := (Bx.alloc (Bx.new w #[(.slice Ao1 o.words.length co1), .int .i64 o.block.pc, .int .i64 o.block.len, (.slice Ao2 o.block.ops.length co2), .int .i64 o.block.fin, .int .i64 o.block.x, .int .i64 o.block.y, .int .i64 o.block.k] 72) (by simp) #[.slice none 0 0, .int .i64 0, .int .i64 0, .slice none 0 0, .int .i64 0, .int .i64 0, .int .i64 0, .int .i64 0] 72); simpa using this)
  have hFo_0 : ∀ oo, (((w.alloc (Obj.cells #[(.slice Ao1 o.words.length co1), .int .i64 o.block.pc, .int .i64 o.block.len, (.slice Ao2 o.block.ops.length co2), .int .i64 o.block.fin, .int .i64 o.block.x, .int .i64 o.block.y, .int .i64 o.block.k] 72)).alloc (Obj.cells #[.slice none 0 0, .int .i64 0, .int .i64 0, .slice none 0 0, .int .i64 0, .int .i64 0, .int .i64 0, .int .i64 0] 72))).frozen? ⟨w.heap.size, oo, none⟩ = false := fun oo => by simp
  have hBres_0 : Bx ((w.alloc (Obj.cells #[(.slice Ao1 o.words.length co1), .int .i64 o.block.pc, .int .i64 o.block.len, (.slice Ao2 o.block.ops.length co2), .int .i64 o.block.fin, .int .i64 o.block.x, .int .i64 o.block.y, .int .i64 o.block.k] 72)).alloc (Obj.cells #[.slice none 0 0, .int .i64 0, .int .i64 0, .slice none 0 0, .int .i64 0, .int .i64 0, .int .i64 0, .int .i64 0] 72)) (w.heap.size + 1) [.slice none 0 0, .int .i64 0, .int .i64 0, .slice none 0 0, .int .i64 0, .int .i64 0, .int .i64 0, .int .i64 0] := (by have := (Bx.new (w.alloc (Obj.cells #[(.slice Ao1 o.words.length co1), .int .i64 o.block.pc, .int .i64 o.block.len, (.slice Ao2 o.block.ops.length co2), .int .i64 o.block.fin, .int .i64 o.block.x, .int .i64 o.block.y, .int .i64 o.block.k] 72)) #[.slice none 0 0, .int .i64 0, .int .i64 0, .slice none 0 0, .int .i64 0, .int .i64 0, .int .i64 0, .int .i64 0] 72); simpa using this)
  have hFres_0 : ∀ oo, (((w.alloc (Obj.cells #[(.slice Ao1 o.words.length co1), .int .i64 o.block.pc, .int .i64 o.block.len, (.slice Ao2 o.block.ops.length co2), .int .i64 o.block.fin, .int .i64 o.block.x, .int .i64 o.block.y, .int .i64 o.block.k] 72)).alloc (Obj.cells #[.slice none 0 0, .int .i64 0, .int .i64 0, .slice none 0 0, .int .i64 0, .int .i64 0, .int .i64 0, .int .i64 0] 72))).frozen? ⟨w.heap.size + 1, oo, none⟩ = false := fun oo => by simp
  generalize ((w.alloc (Obj.cells #[(.slice Ao1 o.words.length co1), .int .i64 o.block.pc, .int .i64 o.block.len, (.slice Ao2 o.block.ops.length co2), .int .i64 o.block.fin, .int .i64 o.block.x, .int .i64 o.block.y, .int .i64 o.block.k] 72)).alloc (Obj.cells #[.slice none 0 0, .int .i64 0, .int .i64 0, .slice none 0 0, .int .i64 0, .int .i64 0, .int .i64 0, .int .i64 0] 72)) = w0 at *
  have yo : w.heap.size < w0.heap.size := by omega
  have xo0 := hBo_0 0 _ rfl
  have xo1 := hBo_0 1 _ rfl
  have xo2 := hBo_0 2 _ rfl
  have xo3 := hBo_0 3 _ rfl
  have xo4 := hBo_0 4 _ rfl
  have xo5 := hBo_0 5 _ rfl
  have xo6 := hBo_0 6 _ rfl
  have xo7 := hBo_0 7 _ rfl
  go_wp2_with fail
  have hS : ∀ w', Ext w0 w' → ∀ bb oo, bb < w0.heap.size → w'.cell? ⟨bb, oo, none⟩ = w0.cell? ⟨bb, oo, none⟩ := fun w' hx bb oo hb => hx.cell hb
  refine wp_region_plan (fun w' => Ext w0 w') 6 (.float 1 (.float 2 (.float 4 (.float 5 (.chain 0 (.chain 3 (.tail 6))))))) (by kernel_rfl) (by kernel_rfl) (Ext.refl _).drew ?_
  iterate 4 ((refine Plan.float_step (v := ?_) rfl (by rfl) (fun _ _ _ h => h) (fun w' hSw => ?_) ?_; rotate_left; · (go_simp; try with_reducible rfl)); (try simp only [Act.put, List.setIfInBounds_toArray, List.set_cons_zero, List.set_cons_succ]))
  refine Plan.chain_step rfl (fun K hK => ?_)
  go_simp
  refine hK.out _ _ (Ext.auto) ?_
  clear hK
  (try simp only [Act.put, List.setIfInBounds_toArray, List.set_cons_zero, List.set_cons_succ])
  refine Plan.chain_step rfl (fun K hK => ?_)
  rw [if_pos (by rfl)]
  refine wp_append_flat (α := Int) (w0 := w0.drew) _ _ 63 rfl i0 _ 8 Try.underlying63 HI.out HZ0.out HZ1.out HZ2.out rfl (App.emptyAt w0.drew 3 _ (by first | rfl | simp)) rfl _ o.words (Old w) rfl (ho1.keep (Ext.old (Ext.trans he0 (Ext.auto))) (fun _ h => h)) (by simp [maxLen]; omega) (by simp; omega) ?_
  intro v' w1 Fs' xs' hA hg
  obtain ⟨F1, hr1, hf1⟩ := hA.done
  have hy := hA.ext
  refine hK.out _ _ (Ext.trans (Ext.auto) hy) ?_
  clear hK hA
  (try simp only [Act.put, List.setIfInBounds_toArray, List.set_cons_zero, List.set_cons_succ])
  simp only [List.nil_append] at hr1
  have hx1 : Ext w0 w1 := Ext.trans (Ext.auto) hy
  have hs1 := hx1.size
  have he1 : Ext w w1 := he0.trans hx1
  have hBo_1 : Bx w1 (w.heap.size) [(.slice Ao1 o.words.length co1), .int .i64 o.block.pc, .int .i64 o.block.len, (.slice Ao2 o.block.ops.length co2), .int .i64 o.block.fin, .int .i64 o.block.x, .int .i64 o.block.y, .int .i64 o.block.k] := hx1.bx hBo_0 (by omega)
  have hFo_1 : ∀ oo, w1.frozen? ⟨w.heap.size, oo, none⟩ = false := fun oo => (hx1.frozen (by omega)).trans (hFo_0 oo)
  have hBres_1 : Bx w1 (w.heap.size + 1) [.slice none 0 0, .int .i64 0, .int .i64 0, .slice none 0 0, .int .i64 0, .int .i64 0, .int .i64 0, .int .i64 0] := hx1.bx hBres_0 (by omega)
  have hFres_1 : ∀ oo, w1.frozen? ⟨w.heap.size + 1, oo, none⟩ = false := fun oo => (hx1.frozen (by omega)).trans (hFres_0 oo)
  clear hBo_0 hFo_0 hBres_0 hFres_0
  clear hy
  refine Plan.tail_step ?_
  simp only [List.drop_succ_cons, List.drop_zero]
  clear hS
  obtain ⟨B1, d1, rfl, -, -⟩ := hr1.sl.form
  clear xo0 xo1 xo2 xo3 xo4 xo5 xo6 xo7 yo
  go_wp2_with fail
  refine (l6Copy_any o.block _ _ (ho2.ext he1) hn2).mono ?_
  rintro e w2 ⟨r2, F2, rfl, hr2, hf2, hy⟩
  have hx2 : Ext w1 w2 := Ext.trans (Ext.auto) hy
  have hs2 := hx2.size
  have he2 : Ext w w2 := he1.trans hx2
  have hBo_2 : Bx w2 (w.heap.size) [(.slice Ao1 o.words.length co1), .int .i64 o.block.pc, .int .i64 o.block.len, (.slice Ao2 o.block.ops.length co2), .int .i64 o.block.fin, .int .i64 o.block.x, .int .i64 o.block.y, .int .i64 o.block.k] := hx2.bx hBo_1 (by omega)
  have hFo_2 : ∀ oo, w2.frozen? ⟨w.heap.size, oo, none⟩ = false := fun oo => (hx2.frozen (by omega)).trans (hFo_1 oo)
  have hBres_2 : Bx w2 (w.heap.size + 1) [.slice none 0 0, .int .i64 0, .int .i64 0, .slice none 0 0, .int .i64 0, .int .i64 0, .int .i64 0, .int .i64 0] := hx2.bx hBres_1 (by omega)
  have hFres_2 : ∀ oo, w2.frozen? ⟨w.heap.size + 1, oo, none⟩ = false := fun oo => (hx2.frozen (by omega)).trans (hFres_1 oo)
  clear hBo_1 hFo_1 hBres_1 hFres_1
  clear hy
  obtain ⟨B2, d2, rfl, -, -⟩ := hr2.sl.form
  have yres : w.heap.size + 1 < w2.heap.size := by omega
  have xres0 := hBres_2 0 _ rfl
  have xres1 := hBres_2 1 _ rfl
  have xres2 := hBres_2 2 _ rfl
  have xres3 := hBres_2 3 _ rfl
  have xres4 := hBres_2 4 _ rfl
  have xres5 := hBres_2 5 _ rfl
  have xres6 := hBres_2 6 _ rfl
  have xres7 := hBres_2 7 _ rfl
  have fres := hFres_2
  go_wp2
  refine bodyPost_ret (v := .agg #[(.slice B1 o.words.length d1), .int .i64 o.block.pc, .int .i64 o.block.len, (.slice B2 o.block.ops.length d2), .int .i64 o.block.fin, .int .i64 o.block.x, .int .i64 o.block.y, .int .i64 o.block.k]) (by simp [results, Try.results103, go_sem, xres0, xres1, xres2, xres3, xres4, xres5, xres6, xres7]) rfl ⟨_, _, F1, F2, rfl, ?_, ?_, ?_, ?_⟩
  · exact OwnSl.stay hr1 (fun b hb => by
      have q := hf1.2 b hb; have q1 := q.1; have q2 := q.2; (try simp at q1 q2)
      repeat (first | rw [heap_set _ _ _ _ (by simp; omega)] | rw [Ext.heap hx2 (by omega)]))
  · exact OwnSl.stay hr2 (fun b hb => by
      have q := hf2.2 b hb; have q1 := q.1; have q2 := q.2; (try simp at q1 q2)
      repeat (first | rw [heap_set _ _ _ _ (by simp; omega)] | rw [Ext.heap (Ext.refl _) (by omega)]))
  · exact Fr.mk2 hf1 hf2 (by first | omega | (simp; done) | (simp; omega)) (by first | omega | (simp; done) | (simp; omega)) (by first | omega | (simp; done) | (simp; omega)) (by first | omega | (simp; done) | (simp; omega)) (by first | omega | (simp; done) | (simp; omega))
  · exact (Ext.hold he2)

set_option maxHeartbeats 2000000 in
theorem cloneCache_app (l : List CacEntry) (v : Value) (w : World) (h : Sl w (Old w) v l) (hn : Bulk.blk l ≤ 4194304) :
    Calls Try.prog 105 #[v] w fun e w' => ∃ r Fs xs, e = .returned r ∧ App w w' 72 r l Fs xs := by
  obtain ⟨A, c, rfl, hl, hm⟩ := h.form
  unfold maxLen at hm
  have hbl := blk_len l
  obtain ⟨i0, hi, hz0, hz1, hz2⟩ := info_parts infCacEntry
  have HI := hide hi
  have HZ0 := hide hz0
  have HZ1 := hide hz1
  have HZ2 := hide hz2
  clear hi hz0 hz1 hz2
  go_enter Try.func105, Try.ntmps105
  go_wp2
  go_loopw [3, 8] (fun v i wr => ∃ (k : Nat) (Fs : List (List Nat)) (xs : List Value), k ≤ l.length ∧ i = .int .i64 k ∧ App w wr 72 v (l.take k) Fs xs) (fun _ i _ => l.length - (intOf i).toNat)
  case atStart => exact ⟨0, [], [], by omega, rfl, App.nil w 72⟩
  case round =>
    obtain ⟨k, Fs, xs, hk, rfl, hA⟩ := hrel
    by_cases hlt : k < l.length
    · obtain ⟨b, off, v1, v2, rfl, hbo, hk0, hv1, hv2, e0, e1, e2, e3, e4, e5, e6, e7⟩ := at_CacEntry (h.ext hA.ext) hlt
      have z0 : (0 : Int) ≤ (k : Int) := by omega
      have z1 : (k : Int) < (l.length : Int) := by omega
      have hbk := blk_el l k hlt
      have HB := hide (show Bulk.blk l[k] = Bulk.blk l[k].words + Bulk.blk l[k].block.ops from rfl)
      obtain ⟨Av1, cv1, rfl, -, -⟩ := hv1.form
      obtain ⟨Av2, cv2, rfl, -, -⟩ := hv2.form
      go_wp2_with fail
      refine (cloneEntry_any l[k] _ _ _ (hv1.ext (Ext.auto)) (hv2.ext (Ext.auto)) (by have := HB.out; have := blk_len l[k].words; omega) (by have := HB.out; have := blk_len l[k].block.ops; omega)).mono ?_
      rintro e w1 ⟨r1, r2, F1, F2, rfl, ho1, ho2, hf, hx⟩
      have hx1 : Ext wr w1 := Ext.trans (Ext.auto) hx
      have hf1 : Fr wr w1 (F1 ++ F2) := hf.mk1 (by simp) (Nat.le_refl _)
      clear hf hx
      obtain ⟨B1, d1, rfl, -, -⟩ := ho1.sl.form
      obtain ⟨B2, d2, rfl, -, -⟩ := ho2.sl.form
      go_wp2_with (at_builtin; refine wpList_append_push (w0 := w) (wr := wr) rfl _ _ 68 rfl i0 _ 96 Try.underlying68 HI.out HZ0.out HZ1.out HZ2.out rfl (by decide) hA rfl l[k] _ _ (F1 ++ F2) _ rfl hx1 ⟨_, _, F1, F2, rfl, hk0, ho1, ho2, rfl⟩ hf1 (by repeat (first | (exact fun _ h => absurd h (List.not_mem_nil)) | (refine List.forall_mem_cons.2 ⟨rfl, ?_⟩))) (by unfold maxLen; first | omega | (simp [List.length_take]; omega)) (by first | omega | (simp [List.length_take]; omega)) ?_; intro v' w9 xs' hA9 hg9; clear hA)
      have HT := hide (List.take_succ_eq_append_getElem hlt)
      go_roundw
      case rel => exact ⟨k + 1, _, _, by omega, by go_num, by rw [HT.out]; exact hA9⟩
      case measure => simp [intOf]; omega
    · obtain rfl : k = l.length := by omega
      go_wp2
      go_ret
      rw [List.take_length] at hA
      exact ⟨_, _, _, rfl, hA⟩

theorem cloneCache_any (l : List CacEntry) (v : Value) (w : World) (h : Sl w (Old w) v l) (hn : Bulk.blk l ≤ 4194304) :
    Calls Try.prog 105 #[v] w fun e w' => ∃ r F, e = .returned r ∧ OwnSl w' r l F ∧ Fr w w' F ∧ Ext w w' :=
  (cloneCache_app l v w h hn).mono fun e w' ⟨r, Fs, xs, he, hA⟩ => by
    obtain ⟨F, ho, hf⟩ := hA.done
    exact ⟨r, F, he, ho, hf, hA.ext⟩

set_option maxHeartbeats 1000000 in
theorem lastOfCac_any (l : List CacEntry) (v : Value) (n : Nat) (w : World) (h : Sl w (Old w) v l) (h0 : 0 < l.length) (hn : l.length ≤ 4194304) (hn1 : 1 ≤ n) (hn2 : n ≤ 10) :
    Calls Try.prog 107 #[v, .int .i64 (n : Int)] w fun e w' => ∃ r, e = .returned r ∧ Sl w (Old w) r (lastN n l) ∧ w = w' := by
  obtain ⟨A, c, rfl, hl, hm⟩ := h.form
  unfold maxLen at hm
  obtain ⟨b, off, rfl⟩ : ∃ b off, A = some ⟨b, off, none⟩ := by
    obtain ⟨A', c', h1, _, _, _, h4⟩ := h
    injection h1 with e1
    subst e1
    obtain ⟨b, off, e, _⟩ := h4 (by intro e; simp [e] at h0)
    exact ⟨b, off, e⟩
  by_cases hlt : l.length ≤ n
  · have HL := hide (show lastN n l = l by unfold lastN; rw [Nat.sub_eq_zero_of_le hlt]; rfl)
    have z1 : ((l.length : Int) - (n : Int)) ≤ 0 := by omega
    have z2 : max 0 ((l.length : Int) - (n : Int)) = 0 := by omega
    go_enter Try.func107, Try.ntmps107
    go_wp2
    go_ret
    exact ⟨_, rfl, by rw [HL.out]; exact h, rfl⟩
  · obtain ⟨d, hd⟩ : ∃ d, l.length = n + d := ⟨l.length - n, by omega⟩
    have HD := hide hd
    have z0 : 0 ≤ ((l.length : Int) - (n : Int)) := by omega
    have z2 : max 0 ((l.length : Int) - (n : Int)) = ((l.length - n : Nat) : Int) := by omega
    have z3 : ((l.length - n : Nat) : Int) ≤ (l.length : Int) := by omega
    have z4 : l.length - n < c := by omega
    have z5 : ¬ c = l.length - n := by omega
    have hs := h.drop (k := l.length - n) (by omega)
    have HS := hide hs
    clear hs hd
    go_enter Try.func107, Try.ntmps107
    go_wp2
    go_ret
    exact ⟨_, rfl, HS.out, rfl⟩

end Go.Proofs.Ytjemadbhpbbhlaa
