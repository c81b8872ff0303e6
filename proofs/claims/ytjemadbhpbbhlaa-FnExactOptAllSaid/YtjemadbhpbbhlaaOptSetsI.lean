/-
  A block without what is set in vain: the program.
-/
import Derived.Test.YtjemadbhpbbhlaaLost
import Derived.Test.YtjemadbhpbbhlaaOptDead
import Derived.Test.YtjemadbhpbbhlaaClearLib
namespace Go.Proofs.Ytjemadbhpbbhlaa
open Go.RowKit

set_option linter.unusedVariables false
set_option linter.unusedSimpArgs false
set_option maxRecDepth 100000

def kpad (ops : List IrOp) (i : Nat) : List Bool := List.replicate i false ++ (keptL ops).drop i
theorem kpad_length (ops : List IrOp) (i : Nat) (h : i ≤ ops.length) : (kpad ops i).length = ops.length := by simp [kpad, keptL_length]; omega
theorem kpad_set (ops : List IrOp) (m : Nat) (h : m < ops.length) (v : Bool) (hv : v = !(ops[m].kind == 8 && seenR ops[m].k (ops.drop (m + 1)))) : (kpad ops (m + 1)).set m v = kpad ops m := by
  subst hv
  unfold kpad
  rw [List.replicate_succ', List.append_assoc, List.set_append_right _ _ (by simp), List.length_replicate, Nat.sub_self]
  rw [List.drop_eq_getElem_cons (l := keptL ops) (i := m) (by rw [keptL_length]; exact h), keptL_at ops m h]
  rfl
def ags (ops : List IrOp) (i : Nat) : List Bool := [seenR 0 (ops.drop i), seenR 1 (ops.drop i), seenR 2 (ops.drop i), seenR 3 (ops.drop i)]
theorem ags_at (ops : List IrOp) (i : Nat) (r : Int) (h0 : 0 ≤ r) (h1 : r ≤ 3) (h : r.toNat < (ags ops i).length) : (ags ops i)[r.toNat] = seenR r (ops.drop i) := by
  have hc : r = 0 ∨ r = 1 ∨ r = 2 ∨ r = 3 := by omega
  rcases hc with rfl | rfl | rfl | rfl <;> rfl
theorem ags_8 (ops : List IrOp) (m : Nat) (h : m < ops.length) (hk : ops[m].kind = 8) (h0 : 0 ≤ ops[m].k) (h1 : ops[m].k ≤ 3) : (ags ops (m + 1)).set (ops[m].k).toNat true = ags ops m := by
  unfold ags
  rw [List.drop_eq_getElem_cons h]
  simp only [seenR_cons, hk]
  generalize ops[m].k = r at *
  have hc : r = 0 ∨ r = 1 ∨ r = 2 ∨ r = 3 := by omega
  rcases hc with rfl | rfl | rfl | rfl <;> simp
theorem ags_2 (ops : List IrOp) (m : Nat) (h : m < ops.length) (hk : ops[m].kind = 2) (h0 : 0 ≤ ops[m].k) (h1 : ops[m].k ≤ 3) : (ags ops (m + 1)).set (ops[m].k).toNat false = ags ops m := by
  unfold ags
  rw [List.drop_eq_getElem_cons h]
  simp only [seenR_cons, hk]
  generalize ops[m].k = r at *
  have hc : r = 0 ∨ r = 1 ∨ r = 2 ∨ r = 3 := by omega
  rcases hc with rfl | rfl | rfl | rfl <;> simp
theorem ags_45 (ops : List IrOp) (m : Nat) (h : m < ops.length) (hk : ops[m].kind = 4 ∨ ops[m].kind = 5) : [false, false, false, false] = ags ops m := by
  unfold ags
  rw [List.drop_eq_getElem_cons h]
  rcases hk with hk | hk <;> (simp only [seenR_cons, hk]; simp)
theorem ags_no (ops : List IrOp) (m : Nat) (h : m < ops.length) (h2 : ops[m].kind ≠ 2) (h4 : ops[m].kind ≠ 4) (h5 : ops[m].kind ≠ 5) (h8 : ops[m].kind ≠ 8) : ags ops (m + 1) = ags ops m := by
  unfold ags
  rw [List.drop_eq_getElem_cons (i := m) h]
  simp only [seenR_cons]
  simp [h2, h4, h5, h8]
theorem kpad_all (ops : List IrOp) : kpad ops ops.length = List.replicate ops.length false := by
  unfold kpad
  rw [List.drop_of_length_le (by rw [keptL_length]; exact Nat.le_refl _), List.append_nil]

theorem keepSets_any (b : IrBlock) (v vk : Value) (w : World) (h : Sl w (Old w) v b.ops) (hkk : Sl w (Old w) vk (keptL b.ops)) (hok : irOkB b = true) :
    Calls Try.prog 101 #[.agg #[.int .i64 b.pc, .int .i64 b.len, v, .int .i64 b.fin, .int .i64 b.x, .int .i64 b.y, .int .i64 b.k], vk] w fun e w' => ∃ r1 F, e = .returned (.agg #[.int .i64 ((optSets b).pc), .int .i64 ((optSets b).len), r1, .int .i64 ((optSets b).fin), .int .i64 ((optSets b).x), .int .i64 ((optSets b).y), .int .i64 ((optSets b).k)]) ∧ OwnSl w' r1 (optSets b).ops F ∧ Fr w w' F ∧ Ext w w' := by
  have q := keep_any b (keptL b.ops) v vk w h hkk hok (keptL_length _)
  rw [← optSets_eq hok] at q
  exact q

set_option maxHeartbeats 16000000 in
theorem implOptSets_any (b : IrBlock) (vb1 : Value) (w : World) (hb1 : Sl w (Old w) vb1 b.ops) (hkb : b.Ok) :
    Calls Try.prog 48 #[.agg #[.int .i64 b.pc, .int .i64 b.len, vb1, .int .i64 b.fin, .int .i64 b.x, .int .i64 b.y, .int .i64 b.k]] w fun e w' => ∃ r1 F, e = .returned (.agg #[.int .i64 ((optSets b).pc), .int .i64 ((optSets b).len), r1, .int .i64 ((optSets b).fin), .int .i64 ((optSets b).x), .int .i64 ((optSets b).y), .int .i64 ((optSets b).k)]) ∧ OwnSl w' r1 (optSets b).ops F ∧ Fr w w' F ∧ Ext w w' := by
  obtain ⟨Ab1, cb1, rfl, hlb1, hmb1⟩ := hb1.form
  go_enter Try.func48, Try.ntmps48
  go_wp2_with fail
  have he0 : Ext w ((w.alloc (Obj.cells #[.int .i64 b.pc, .int .i64 b.len, (.slice Ab1 b.ops.length cb1), .int .i64 b.fin, .int .i64 b.x, .int .i64 b.y, .int .i64 b.k] 30)).alloc (Obj.cells #[.int .i64 0, .int .i64 0, .slice none 0 0, .int .i64 0, .int .i64 0, .int .i64 0, .int .i64 0] 30)) := (Ext.auto)
  have hs0 : w.heap.size + 2 ≤ (((w.alloc (Obj.cells #[.int .i64 b.pc, .int .i64 b.len, (.slice Ab1 b.ops.length cb1), .int .i64 b.fin, .int .i64 b.x, .int .i64 b.y, .int .i64 b.k] 30)).alloc (Obj.cells #[.int .i64 0, .int .i64 0, .slice none 0 0, .int .i64 0, .int .i64 0, .int .i64 0, .int .i64 0] 30))).heap.size := by simp
  have hq0 := hide (show (((w.alloc (Obj.cells #[.int .i64 b.pc, .int .i64 b.len, (.slice Ab1 b.ops.length cb1), .int .i64 b.fin, .int .i64 b.x, .int .i64 b.y, .int .i64 b.k] 30)).alloc (Obj.cells #[.int .i64 0, .int .i64 0, .slice none 0 0, .int .i64 0, .int .i64 0, .int .i64 0, .int .i64 0] 30))).heap.size = w.heap.size + 2 by simp)
  have hBb_0 : Bx ((w.alloc (Obj.cells #[.int .i64 b.pc, .int .i64 b.len, (.slice Ab1 b.ops.length cb1), .int .i64 b.fin, .int .i64 b.x, .int .i64 b.y, .int .i64 b.k] 30)).alloc (Obj.cells #[.int .i64 0, .int .i64 0, .slice none 0 0, .int .i64 0, .int .i64 0, .int .i64 0, .int .i64 0] 30)) (w.heap.size) [.int .i64 b.pc, .int .i64 b.len, (.slice Ab1 b.ops.length cb1), .int .i64 b.fin, .int .i64 b.x, .int .i64 b.y, .int .i64 b.k] := (by have := (Bx.alloc (Bx.new w #[.int .i64 b.pc, .int .i64 b.len, (.slice Ab1 b.ops.length cb1), .int .i64 b.fin, .int .i64 b.x, .int .i64 b.y, .int .i64 b.k] 30) (by simp) #[.int .i64 0, .int .i64 0, .slice none 0 0, .int .i64 0, .int .i64 0, .int .i64 0, .int .i64 0] 30); simpa using this)
  have hFb_0 : ∀ oo, (((w.alloc (Obj.cells #[.int .i64 b.pc, .int .i64 b.len, (.slice Ab1 b.ops.length cb1), .int .i64 b.fin, .int .i64 b.x, .int .i64 b.y, .int .i64 b.k] 30)).alloc (Obj.cells #[.int .i64 0, .int .i64 0, .slice none 0 0, .int .i64 0, .int .i64 0, .int .i64 0, .int .i64 0] 30))).frozen? ⟨w.heap.size, oo, none⟩ = false := fun oo => by simp
  have hBres_0 : Bx ((w.alloc (Obj.cells #[.int .i64 b.pc, .int .i64 b.len, (.slice Ab1 b.ops.length cb1), .int .i64 b.fin, .int .i64 b.x, .int .i64 b.y, .int .i64 b.k] 30)).alloc (Obj.cells #[.int .i64 0, .int .i64 0, .slice none 0 0, .int .i64 0, .int .i64 0, .int .i64 0, .int .i64 0] 30)) (w.heap.size + 1) [.int .i64 0, .int .i64 0, .slice none 0 0, .int .i64 0, .int .i64 0, .int .i64 0, .int .i64 0] := (by have := (Bx.new (w.alloc (Obj.cells #[.int .i64 b.pc, .int .i64 b.len, (.slice Ab1 b.ops.length cb1), .int .i64 b.fin, .int .i64 b.x, .int .i64 b.y, .int .i64 b.k] 30)) #[.int .i64 0, .int .i64 0, .slice none 0 0, .int .i64 0, .int .i64 0, .int .i64 0, .int .i64 0] 30); simpa using this)
  have hFres_0 : ∀ oo, (((w.alloc (Obj.cells #[.int .i64 b.pc, .int .i64 b.len, (.slice Ab1 b.ops.length cb1), .int .i64 b.fin, .int .i64 b.x, .int .i64 b.y, .int .i64 b.k] 30)).alloc (Obj.cells #[.int .i64 0, .int .i64 0, .slice none 0 0, .int .i64 0, .int .i64 0, .int .i64 0, .int .i64 0] 30))).frozen? ⟨w.heap.size + 1, oo, none⟩ = false := fun oo => by simp
  generalize ((w.alloc (Obj.cells #[.int .i64 b.pc, .int .i64 b.len, (.slice Ab1 b.ops.length cb1), .int .i64 b.fin, .int .i64 b.x, .int .i64 b.y, .int .i64 b.k] 30)).alloc (Obj.cells #[.int .i64 0, .int .i64 0, .slice none 0 0, .int .i64 0, .int .i64 0, .int .i64 0, .int .i64 0] 30)) = w0 at *
  refine (implIrOk_any b _ _ (hb1.ext he0) hkb).mono ?_
  rintro e w1 ⟨rfl, hy⟩
  have hx1 : Ext w0 w1 := Ext.trans (Ext.auto) hy
  have hs1 := hx1.size
  have he1 : Ext w w1 := he0.trans hx1
  have hBb_1 : Bx w1 (w.heap.size) [.int .i64 b.pc, .int .i64 b.len, (.slice Ab1 b.ops.length cb1), .int .i64 b.fin, .int .i64 b.x, .int .i64 b.y, .int .i64 b.k] := hx1.bx hBb_0 (by omega)
  have hFb_1 : ∀ oo, w1.frozen? ⟨w.heap.size, oo, none⟩ = false := fun oo => (hx1.frozen (by omega)).trans (hFb_0 oo)
  have hBres_1 : Bx w1 (w.heap.size + 1) [.int .i64 0, .int .i64 0, .slice none 0 0, .int .i64 0, .int .i64 0, .int .i64 0, .int .i64 0] := hx1.bx hBres_0 (by omega)
  have hFres_1 : ∀ oo, w1.frozen? ⟨w.heap.size + 1, oo, none⟩ = false := fun oo => (hx1.frozen (by omega)).trans (hFres_0 oo)
  clear hBb_0 hFb_0 hBres_0 hFres_0
  clear hy
  cases hok : irOkB b
  · 
    have HNO := hide (optSets_no hok)
    clear hok
    have yres : w.heap.size + 1 < w1.heap.size := by omega
    have xres0 := hBres_1 0 _ rfl
    have xres1 := hBres_1 1 _ rfl
    have xres2 := hBres_1 2 _ rfl
    have xres3 := hBres_1 3 _ rfl
    have xres4 := hBres_1 4 _ rfl
    have xres5 := hBres_1 5 _ rfl
    have xres6 := hBres_1 6 _ rfl
    have fres := hFres_1
    go_wp2
    first
    | refine bodyPost_ret (v := .agg #[.int .i64 0, .int .i64 0, .slice none 0 0, .int .i64 0, .int .i64 0, .int .i64 0, .int .i64 0]) (by simp [results, Try.results48, go_sem, xres0, xres1, xres2, xres3, xres4, xres5, xres6, yres]) rfl ⟨.slice none 0 0, [], by rw [HNO.out]; rfl, by rw [HNO.out]; exact OwnSl.nil _, Fr.nil _ _, (Ext.hold he1)⟩
    | refine bodyPost_ret (v := .agg #[.int .i64 0, .int .i64 0, .slice none 0 0, .int .i64 0, .int .i64 0, .int .i64 0, .int .i64 0]) (by simp [results, Try.results48, go_sem, xres0, xres1, xres2, xres3, xres4, xres5, xres6, yres]) rfl ⟨.slice none 0 0, by rw [HNO.out]; rfl, [], by rw [HNO.out]; exact OwnSl.nil _, Fr.nil _ _, (Ext.hold he1)⟩
  have HOK := hide hok
  clear hok
  have hn48 := ok_n HOK.out
  unfold maxLen at hmb1
  obtain ⟨i_m, hi_m, hz0_m, hz1_m, hz2_m⟩ := info_parts infzBool
  have hmk_m : ∀ w : World, (Instr.makeSlice 41 (.int .i64 (b.ops.length : Int)) (.int .i64 (b.ops.length : Int))).run Try.prog w = .ok (.slice (some ⟨w.heap.size, 0, none⟩) b.ops.length b.ops.length) (w.alloc (.cells (madeCells (Value.bool false).cells (b.ops.length * i_m.size)) 4)) :=
    fun w => run_make_rowN 41 4 i_m _ Try.underlying41 hi_m hz0_m _ _ (b.ops.length) (b.ops.length) (Nat.le_refl _) (by rw [hz2_m]; omega) (by omega) w
  have HM_m := hide (show b.ops.length * i_m.size = b.ops.length by rw [show i_m.size = 1 from hz1_m]; try omega)
  clear hi_m hz0_m hz1_m hz2_m
  obtain ⟨i_q, hi_q, hz0_q, hz1_q, hz2_q⟩ := info_parts infzBool
  have hmk_q : ∀ w : World, (Instr.makeSlice 41 (.int .i64 (4 : Int)) (.int .i64 (4 : Int))).run Try.prog w = .ok (.slice (some ⟨w.heap.size, 0, none⟩) 4 4) (w.alloc (.cells (madeCells (Value.bool false).cells (4 * i_q.size)) 4)) :=
    fun w => run_make_rowN 41 4 i_q _ Try.underlying41 hi_q hz0_q _ _ (4) (4) (Nat.le_refl _) (by rw [hz2_q]; omega) (by omega) w
  have HM_q := hide (show 4 * i_q.size = 4 by rw [show i_q.size = 1 from hz1_q]; try omega)
  clear hi_q hz0_q hz1_q hz2_q
  have hzv : ∀ w : World, (zeroValue 4).run Try.prog w = .ok (.bool false) w := fun w => by kernel_rfl
  have HZV := hide hzv
  clear hzv
  have yb : w.heap.size < w1.heap.size := by omega
  have xb0 := hBb_1 0 _ rfl
  have xb1 := hBb_1 1 _ rfl
  have xb2 := hBb_1 2 _ rfl
  have xb3 := hBb_1 3 _ rfl
  have xb4 := hBb_1 4 _ rfl
  have xb5 := hBb_1 5 _ rfl
  have xb6 := hBb_1 6 _ rfl
  go_wp2_with fail
  clear xb0 xb1 xb2 xb3 xb4 xb5 xb6 yb
  have he2 : Ext w ((w1.alloc (.cells (madeCells #[Value.bool false] (b.ops.length * i_m.size)) 4)).alloc (.cells (madeCells #[Value.bool false] (4 * i_q.size)) 4)) := (Ext.hold he1)
  have hs2 : w1.heap.size + 2 ≤ (((w1.alloc (.cells (madeCells #[Value.bool false] (b.ops.length * i_m.size)) 4)).alloc (.cells (madeCells #[Value.bool false] (4 * i_q.size)) 4))).heap.size := by simp
  have hq2 := hide (show (((w1.alloc (.cells (madeCells #[Value.bool false] (b.ops.length * i_m.size)) 4)).alloc (.cells (madeCells #[Value.bool false] (4 * i_q.size)) 4))).heap.size = w1.heap.size + 2 by simp)
  have hBb_2 : Bx (((w1.alloc (.cells (madeCells #[Value.bool false] (b.ops.length * i_m.size)) 4)).alloc (.cells (madeCells #[Value.bool false] (4 * i_q.size)) 4))) (w.heap.size) [.int .i64 b.pc, .int .i64 b.len, (.slice Ab1 b.ops.length cb1), .int .i64 b.fin, .int .i64 b.x, .int .i64 b.y, .int .i64 b.k] := Bx.hold hBb_1
  have hFb_2 : ∀ oo, (((w1.alloc (.cells (madeCells #[Value.bool false] (b.ops.length * i_m.size)) 4)).alloc (.cells (madeCells #[Value.bool false] (4 * i_q.size)) 4))).frozen? ⟨w.heap.size, oo, none⟩ = false := (fz_hold hFb_1)
  have hBres_2 : Bx (((w1.alloc (.cells (madeCells #[Value.bool false] (b.ops.length * i_m.size)) 4)).alloc (.cells (madeCells #[Value.bool false] (4 * i_q.size)) 4))) (w.heap.size + 1) [.int .i64 0, .int .i64 0, .slice none 0 0, .int .i64 0, .int .i64 0, .int .i64 0, .int .i64 0] := Bx.hold hBres_1
  have hFres_2 : ∀ oo, (((w1.alloc (.cells (madeCells #[Value.bool false] (b.ops.length * i_m.size)) 4)).alloc (.cells (madeCells #[Value.bool false] (4 * i_q.size)) 4))).frozen? ⟨w.heap.size + 1, oo, none⟩ = false := (fz_hold hFres_1)
  have hRkp_2 : FRow (((w1.alloc (.cells (madeCells #[Value.bool false] (b.ops.length * i_m.size)) 4)).alloc (.cells (madeCells #[Value.bool false] (4 * i_q.size)) 4))) (w1.heap.size) 0 (List.replicate b.ops.length false) := ((FRow.make (α := Bool) w1 (Value.bool false) 4 (b.ops.length) false rfl rfl HM_m.out).alloc (.cells (madeCells #[Value.bool false] (4 * i_q.size)) 4))
  have hRag_2 : FRow (((w1.alloc (.cells (madeCells #[Value.bool false] (b.ops.length * i_m.size)) 4)).alloc (.cells (madeCells #[Value.bool false] (4 * i_q.size)) 4))) (w1.heap.size + 1) 0 (List.replicate 4 false) := (by have := FRow.make (α := Bool) (w1.alloc (.cells (madeCells #[Value.bool false] (b.ops.length * i_m.size)) 4)) (Value.bool false) 4 (4) false rfl rfl HM_q.out; simpa using this)
  generalize ((w1.alloc (.cells (madeCells #[Value.bool false] (b.ops.length * i_m.size)) 4)).alloc (.cells (madeCells #[Value.bool false] (4 * i_q.size)) 4)) = w2 at *
  clear hBb_1 hFb_1 hBres_1 hFres_1
  clear hmk_m hmk_q
  go_loopw [5] (fun i w3 => ∃ (k : Nat), k ≤ b.ops.length ∧ i = .int .i64 ((k : Int) - 1) ∧ Ext w w3 ∧ w2.heap.size ≤ w3.heap.size ∧ Bx w3 (w.heap.size) [.int .i64 b.pc, .int .i64 b.len, (.slice Ab1 b.ops.length cb1), .int .i64 b.fin, .int .i64 b.x, .int .i64 b.y, .int .i64 b.k] ∧ (∀ oo, w3.frozen? ⟨w.heap.size, oo, none⟩ = false) ∧ Bx w3 (w.heap.size + 1) [.int .i64 0, .int .i64 0, .slice none 0 0, .int .i64 0, .int .i64 0, .int .i64 0, .int .i64 0] ∧ (∀ oo, w3.frozen? ⟨w.heap.size + 1, oo, none⟩ = false) ∧ FRow w3 (w1.heap.size) 0 (kpad b.ops k) ∧ FRow w3 (w1.heap.size + 1) 0 (ags b.ops k)) (fun i _ => (intOf i + 1).toNat)
  case atStart => exact ⟨b.ops.length, Nat.le_refl _, rfl, he2, Nat.le_refl _, hBb_2, hFb_2, hBres_2, hFres_2, by rw [kpad_all]; exact hRkp_2, by simpa [ags, seenR_nil, List.replicate] using hRag_2⟩
  case round =>
    obtain ⟨w3, hwr⟩ : ∃ w3 : World, w3 = wr := ⟨_, rfl⟩
    subst hwr
    obtain ⟨k, hk, rfl, he3, hs3, hBb_3, hFb_3, hBres_3, hFres_3, hRkp_3, hRag_3⟩ := hrel
    rcases k with _ | m
    · 
      have hkp : kpad b.ops 0 = keptL b.ops := by simp [kpad]
      rw [hkp] at hRkp_3
      clear hkp
      have hS3 := hRkp_3.sl (n := b.ops.length) (c := b.ops.length) (keptL_length _).symm (by rw [keptL_length]; exact Nat.le_refl _) (by unfold maxLen; omega)
      have yb : w.heap.size < w3.heap.size := by omega
      have xb0 := hBb_3 0 _ rfl
      have xb1 := hBb_3 1 _ rfl
      have xb2 := hBb_3 2 _ rfl
      have xb3 := hBb_3 3 _ rfl
      have xb4 := hBb_3 4 _ rfl
      have xb5 := hBb_3 5 _ rfl
      have xb6 := hBb_3 6 _ rfl
      go_wp2_with fail
      clear xb0 xb1 xb2 xb3 xb4 xb5 xb6 yb
      refine (keepSets_any b _ _ _ (hb1.ext he3) hS3 HOK.out).mono ?_
      rintro e w4 ⟨r1, F1, rfl, ho1, hf1, hy⟩
      have hx4 : Ext w3 w4 := Ext.trans (Ext.auto) hy
      have hs4 := hx4.size
      have he4 : Ext w w4 := he3.trans hx4
      have hBb_4 : Bx w4 (w.heap.size) [.int .i64 b.pc, .int .i64 b.len, (.slice Ab1 b.ops.length cb1), .int .i64 b.fin, .int .i64 b.x, .int .i64 b.y, .int .i64 b.k] := hx4.bx hBb_3 (by omega)
      have hFb_4 : ∀ oo, w4.frozen? ⟨w.heap.size, oo, none⟩ = false := fun oo => (hx4.frozen (by omega)).trans (hFb_3 oo)
      have hBres_4 : Bx w4 (w.heap.size + 1) [.int .i64 0, .int .i64 0, .slice none 0 0, .int .i64 0, .int .i64 0, .int .i64 0, .int .i64 0] := hx4.bx hBres_3 (by omega)
      have hFres_4 : ∀ oo, w4.frozen? ⟨w.heap.size + 1, oo, none⟩ = false := fun oo => (hx4.frozen (by omega)).trans (hFres_3 oo)
      clear hBb_3 hFb_3 hBres_3 hFres_3
      have hRkp_4 : FRow w4 (w1.heap.size) 0 (keptL b.ops) := hRkp_3.ext hx4
      have hRag_4 : FRow w4 (w1.heap.size + 1) 0 (ags b.ops 0) := hRag_3.ext hx4
      clear hRkp_3 hRag_3
      clear hy
      obtain ⟨B1, d1, rfl, -, -⟩ := ho1.sl.form
      have yres : w.heap.size + 1 < w4.heap.size := by omega
      have xres0 := hBres_4 0 _ rfl
      have xres1 := hBres_4 1 _ rfl
      have xres2 := hBres_4 2 _ rfl
      have xres3 := hBres_4 3 _ rfl
      have xres4 := hBres_4 4 _ rfl
      have xres5 := hBres_4 5 _ rfl
      have xres6 := hBres_4 6 _ rfl
      have fres := hFres_4
      go_wp2
      refine bodyPost_ret (v := .agg #[.int .i64 ((optSets b).pc), .int .i64 ((optSets b).len), (.slice B1 (optSets b).ops.length d1), .int .i64 ((optSets b).fin), .int .i64 ((optSets b).x), .int .i64 ((optSets b).y), .int .i64 ((optSets b).k)]) (by simp [results, Try.results48, go_sem, xres0, xres1, xres2, xres3, xres4, xres5, xres6]) rfl ⟨_, F1, rfl, ?_, ?_, ?_⟩
      · exact OwnSl.stay ho1 (fun b hb => by
          have q := hf1.2 b hb; have q1 := q.1; have q2 := q.2; (try simp at q1 q2)
          repeat (first | rw [heap_set _ _ _ _ (by simp; omega)] | rw [Ext.heap (Ext.refl _) (by omega)]))
      · exact hf1.mk1 (by omega) (by first | (simp; done) | (simp; omega))
      · exact (Ext.hold he4)
    · 
      have hlt : m < b.ops.length := by omega
      rw [show (((m + 1 : Nat) : Int) - 1) = (m : Int) by omega]
      have z0 : (0 : Int) ≤ (m : Int) := by omega
      have z1 : (m : Int) < (b.ops.length : Int) := by omega
      have hinK : m < (kpad b.ops (m + 1)).length := by rw [kpad_length _ _ (by omega)]; exact hlt
      obtain ⟨bb, off, rfl, hbo, hk0, d0, d1, d2, d3, d4⟩ := at_IrOp hb1 hlt
      have hbl : bb < w.heap.size := hbo
      have hbl1 : bb < w3.heap.size := by omega
      have e0 := (he3.cell hbl).trans d0
      have e1 := (he3.cell hbl).trans d1
      have e2 := (he3.cell hbl).trans d2
      have e3 := (he3.cell hbl).trans d3
      have e4 := (he3.cell hbl).trans d4
      clear d0 d1 d2 d3 d4
      have KD := op_kind (ok_ops HOK.out m hlt)
      have HKR := hide (fun q => op_r (ok_ops HOK.out m hlt) q)
      have HKP := hide (kpad_set b.ops m hlt)
      have yb : w.heap.size < w3.heap.size := by omega
      have xb0 := hBb_3 0 _ rfl
      have xb1 := hBb_3 1 _ rfl
      have xb2 := hBb_3 2 _ rfl
      have xb3 := hBb_3 3 _ rfl
      have xb4 := hBb_3 4 _ rfl
      have xb5 := hBb_3 5 _ rfl
      have xb6 := hBb_3 6 _ rfl
      have gc := hRkp_3.bool0 (i := m) (hinK)
      have zgc := hRkp_3.fz
      have ygc : w1.heap.size < w3.heap.size := hRkp_3.lt
      go_upto_region 10 with fail
      clear xb0 xb1 xb2 xb3 xb4 xb5 xb6 yb
      clear gc zgc ygc
      have he4 : Ext w ((w3.setCell ⟨w1.heap.size, m, none⟩ (.bool true)).alloc (Obj.cells #[.int .i64 (b.ops[m].kind), .int .i64 (b.ops[m].x), .int .i64 (b.ops[m].y), .int .i64 (b.ops[m].k), .int .i64 (b.ops[m].at_)] 92)) := (Ext.hold he3)
      have hs4 : w3.heap.size + 1 ≤ (((w3.setCell ⟨w1.heap.size, m, none⟩ (.bool true)).alloc (Obj.cells #[.int .i64 (b.ops[m].kind), .int .i64 (b.ops[m].x), .int .i64 (b.ops[m].y), .int .i64 (b.ops[m].k), .int .i64 (b.ops[m].at_)] 92))).heap.size := by simp
      have hq4 := hide (show (((w3.setCell ⟨w1.heap.size, m, none⟩ (.bool true)).alloc (Obj.cells #[.int .i64 (b.ops[m].kind), .int .i64 (b.ops[m].x), .int .i64 (b.ops[m].y), .int .i64 (b.ops[m].k), .int .i64 (b.ops[m].at_)] 92))).heap.size = w3.heap.size + 1 by simp)
      have hltkp_4 : w1.heap.size < w3.heap.size := hRkp_3.lt
      have hltag_4 : w1.heap.size + 1 < w3.heap.size := hRag_3.lt
      have hBb_4 : Bx (((w3.setCell ⟨w1.heap.size, m, none⟩ (.bool true)).alloc (Obj.cells #[.int .i64 (b.ops[m].kind), .int .i64 (b.ops[m].x), .int .i64 (b.ops[m].y), .int .i64 (b.ops[m].k), .int .i64 (b.ops[m].at_)] 92))) (w.heap.size) [.int .i64 b.pc, .int .i64 b.len, (.slice (some ⟨bb, off, none⟩) b.ops.length cb1), .int .i64 b.fin, .int .i64 b.x, .int .i64 b.y, .int .i64 b.k] := Bx.hold hBb_3
      have hFb_4 : ∀ oo, (((w3.setCell ⟨w1.heap.size, m, none⟩ (.bool true)).alloc (Obj.cells #[.int .i64 (b.ops[m].kind), .int .i64 (b.ops[m].x), .int .i64 (b.ops[m].y), .int .i64 (b.ops[m].k), .int .i64 (b.ops[m].at_)] 92))).frozen? ⟨w.heap.size, oo, none⟩ = false := (fz_hold hFb_3)
      have hBres_4 : Bx (((w3.setCell ⟨w1.heap.size, m, none⟩ (.bool true)).alloc (Obj.cells #[.int .i64 (b.ops[m].kind), .int .i64 (b.ops[m].x), .int .i64 (b.ops[m].y), .int .i64 (b.ops[m].k), .int .i64 (b.ops[m].at_)] 92))) (w.heap.size + 1) [.int .i64 0, .int .i64 0, .slice none 0 0, .int .i64 0, .int .i64 0, .int .i64 0, .int .i64 0] := Bx.hold hBres_3
      have hFres_4 : ∀ oo, (((w3.setCell ⟨w1.heap.size, m, none⟩ (.bool true)).alloc (Obj.cells #[.int .i64 (b.ops[m].kind), .int .i64 (b.ops[m].x), .int .i64 (b.ops[m].y), .int .i64 (b.ops[m].k), .int .i64 (b.ops[m].at_)] 92))).frozen? ⟨w.heap.size + 1, oo, none⟩ = false := (fz_hold hFres_3)
      have hRag_4 : FRow (((w3.setCell ⟨w1.heap.size, m, none⟩ (.bool true)).alloc (Obj.cells #[.int .i64 (b.ops[m].kind), .int .i64 (b.ops[m].x), .int .i64 (b.ops[m].y), .int .i64 (b.ops[m].k), .int .i64 (b.ops[m].at_)] 92))) (w1.heap.size + 1) 0 (ags b.ops (m + 1)) := FRow.hold hRag_3
      have hRkp_4 : FRow (((w3.setCell ⟨w1.heap.size, m, none⟩ (.bool true)).alloc (Obj.cells #[.int .i64 (b.ops[m].kind), .int .i64 (b.ops[m].x), .int .i64 (b.ops[m].y), .int .i64 (b.ops[m].k), .int .i64 (b.ops[m].at_)] 92))) (w1.heap.size) 0 ((kpad b.ops (m + 1)).set m true) := ((hRkp_3.setBool0 hinK true).alloc _)
      have hBo_4 : Bx (((w3.setCell ⟨w1.heap.size, m, none⟩ (.bool true)).alloc (Obj.cells #[.int .i64 (b.ops[m].kind), .int .i64 (b.ops[m].x), .int .i64 (b.ops[m].y), .int .i64 (b.ops[m].k), .int .i64 (b.ops[m].at_)] 92))) (w3.heap.size) [.int .i64 (b.ops[m].kind), .int .i64 (b.ops[m].x), .int .i64 (b.ops[m].y), .int .i64 (b.ops[m].k), .int .i64 (b.ops[m].at_)] := (by have := Bx.new (w3.setCell ⟨w1.heap.size, m, none⟩ (.bool true)) #[.int .i64 (b.ops[m].kind), .int .i64 (b.ops[m].x), .int .i64 (b.ops[m].y), .int .i64 (b.ops[m].k), .int .i64 (b.ops[m].at_)] 92; simpa using this)
      have hFo_4 : ∀ oo, (((w3.setCell ⟨w1.heap.size, m, none⟩ (.bool true)).alloc (Obj.cells #[.int .i64 (b.ops[m].kind), .int .i64 (b.ops[m].x), .int .i64 (b.ops[m].y), .int .i64 (b.ops[m].k), .int .i64 (b.ops[m].at_)] 92))).frozen? ⟨w3.heap.size, oo, none⟩ = false := by first | (exact fz_new _ _ _ (by first | rfl | simp)) | (intro oo; simp)
      generalize ((w3.setCell ⟨w1.heap.size, m, none⟩ (.bool true)).alloc (Obj.cells #[.int .i64 (b.ops[m].kind), .int .i64 (b.ops[m].x), .int .i64 (b.ops[m].y), .int .i64 (b.ops[m].k), .int .i64 (b.ops[m].at_)] 92)) = w4 at *
      clear hBb_3 hFb_3 hBres_3 hFres_3 hRkp_3 hRag_3
      clear e0 e1 e2 e3 e4 hbo hbl
      by_cases k8 : b.ops[m].kind = 8
      · 
        have hr := HKR.out (by simp [k8])
        have hr0 := hr.1
        have hr1 := hr.2
        have hinA : (b.ops[m].k).toNat < (ags b.ops (m + 1)).length := by show _ < 4; omega
        clear hr
        have q8 : (b.ops[m].kind == 8) = true := by simp [k8]
        have EA := hide (ags_8 b.ops m hlt k8 hr0 hr1)
        have EV := hide (ags_at b.ops (m + 1) b.ops[m].k hr0 hr1 hinA)
        have K8 := hide q8
        clear k8
        have hinK2 : m < ((kpad b.ops (m + 1)).set m true).length := by rw [List.length_set]; exact hinK
        have ga := hRag_4.bool0 (i := (b.ops[m].k).toNat) (hinA)
        have zga := hRag_4.fz
        have yga : w1.heap.size + 1 < w4.heap.size := hRag_4.lt
        have gk := hRkp_4.bool0 (i := m) (hinK2)
        have zgk := hRkp_4.fz
        have ygk : w1.heap.size < w4.heap.size := hRkp_4.lt
        cases hv : (ags b.ops (m + 1))[(b.ops[m].k).toNat]
        · 
          rw [hv] at ga
          have HV := hide (EV.out.symm.trans hv)
          clear hv
          have yo : w3.heap.size < w4.heap.size := by omega
          have xo0 := hBo_4 0 _ rfl
          have xo1 := hBo_4 1 _ rfl
          have xo2 := hBo_4 2 _ rfl
          have xo3 := hBo_4 3 _ rfl
          have xo4 := hBo_4 4 _ rfl
          go_wp2_with fail
          go_roundw
          case rel => exact ⟨m, by omega, by go_num, (Ext.hold he4), (by first | omega | (simp; omega)), (Bx.hold hBb_4), (fz_hold hFb_4), (Bx.hold hBres_4), (fz_hold hFres_4), (by have q := HKP.out true (by rw [K8.out, HV.out]; rfl); rw [← q]; have q2 := (hRkp_4.setBool0 hinK2 true).far (p := ⟨w1.heap.size + 1, (b.ops[m].k).toNat, none⟩) (by show w1.heap.size + 1 ≠ w1.heap.size; omega) (.bool true); rw [List.set_set] at q2; exact q2), (by rw [← EA.out]; exact (FRow.far hRag_4 (by show w1.heap.size ≠ w1.heap.size + 1; omega) _).setBool0 hinA true)⟩
          case measure => (simp [intOf]; try omega)
        · 
          rw [hv] at ga
          have HV := hide (EV.out.symm.trans hv)
          clear hv
          have yo : w3.heap.size < w4.heap.size := by omega
          have xo0 := hBo_4 0 _ rfl
          have xo1 := hBo_4 1 _ rfl
          have xo2 := hBo_4 2 _ rfl
          have xo3 := hBo_4 3 _ rfl
          have xo4 := hBo_4 4 _ rfl
          go_wp2_with fail
          go_roundw
          case rel => exact ⟨m, by omega, by go_num, (Ext.hold he4), (by first | omega | (simp; omega)), (Bx.hold hBb_4), (fz_hold hFb_4), (Bx.hold hBres_4), (fz_hold hFres_4), (by have q := HKP.out false (by rw [K8.out, HV.out]; rfl); rw [← q]; have q2 := (hRkp_4.setBool0 hinK2 false).far (p := ⟨w1.heap.size + 1, (b.ops[m].k).toNat, none⟩) (by show w1.heap.size + 1 ≠ w1.heap.size; omega) (.bool true); rw [List.set_set] at q2; exact q2), (by rw [← EA.out]; exact (FRow.far hRag_4 (by show w1.heap.size ≠ w1.heap.size + 1; omega) _).setBool0 hinA true)⟩
          case measure => (simp [intOf]; try omega)
      · 
        have q8 : (b.ops[m].kind == 8) = false := by simp [k8]
        by_cases k2 : b.ops[m].kind = 2
        · 
          have hr := HKR.out (by simp [k2])
          have hr0 := hr.1
          have hr1 := hr.2
          have hinA : (b.ops[m].k).toNat < (ags b.ops (m + 1)).length := by show _ < 4; omega
          clear hr
          have q2 : (b.ops[m].kind == 2) = true := by simp [k2]
          have EA := hide (ags_2 b.ops m hlt k2 hr0 hr1)
          clear k8 k2
          have ga := hRag_4.bool0 (i := (b.ops[m].k).toNat) (hinA)
          have zga := hRag_4.fz
          have yga : w1.heap.size + 1 < w4.heap.size := hRag_4.lt
          have yo : w3.heap.size < w4.heap.size := by omega
          have xo0 := hBo_4 0 _ rfl
          have xo1 := hBo_4 1 _ rfl
          have xo2 := hBo_4 2 _ rfl
          have xo3 := hBo_4 3 _ rfl
          have xo4 := hBo_4 4 _ rfl
          go_wp2_with fail
          go_roundw
          case rel => exact ⟨m, by omega, by go_num, (Ext.hold he4), (by first | omega | (simp; omega)), (Bx.hold hBb_4), (fz_hold hFb_4), (Bx.hold hBres_4), (fz_hold hFres_4), (by have q := HKP.out true (by simp [q8]); rw [← q]; exact (FRow.hold hRkp_4)), (by rw [← EA.out]; exact hRag_4.setBool0 hinA false)⟩
          case measure => (simp [intOf]; try omega)
        · 
          have q2 : (b.ops[m].kind == 2) = false := by simp [k2]
          by_cases k45 : b.ops[m].kind = 4 ∨ b.ops[m].kind = 5
          · 
            have EA := hide (ags_45 b.ops m hlt k45)
            clear k8 k2
            rcases k45 with k4 | k5
            · 
              have q4 : (b.ops[m].kind == 4) = true := by simp [k4]
              clear k4
              have yo : w3.heap.size < w4.heap.size := by omega
              have xo0 := hBo_4 0 _ rfl
              have xo1 := hBo_4 1 _ rfl
              have xo2 := hBo_4 2 _ rfl
              have xo3 := hBo_4 3 _ rfl
              have xo4 := hBo_4 4 _ rfl
              go_wp2_with (refine wpList_clear_bool rfl _ 41 4 rfl Try.underlying41 HZV.out rfl (l := ags b.ops (m + 1)) rfl (by decide) hRag_4 ?_; intro w9 hR9 hP9; have hC9 := hP9.chg)
              go_roundw
              case rel => exact ⟨m, by omega, by go_num, Chg.ext he4 hC9 (fun x hx => by simp at hx; subst hx; omega), by have := hC9.size; omega, hBb_4.chg hC9 (by omega) (by first | (simp; done) | (simp; omega)), (fun oo => (hC9.frozen _ oo (by omega)).trans (hFb_4 oo)), hBres_4.chg hC9 (by omega) (by first | (simp; done) | (simp; omega)), (fun oo => (hC9.frozen _ oo (by omega)).trans (hFres_4 oo)), (by have q := HKP.out true (by simp [q8]); rw [← q]; exact hRkp_4.chg hC9 (by first | (simp; done) | (simp; omega))), (by rw [← EA.out]; exact hR9)⟩
              case measure => (simp [intOf]; try omega)
            · 
              have q4 : (b.ops[m].kind == 4) = false := by simp [k5]
              have q5 : (b.ops[m].kind == 5) = true := by simp [k5]
              clear k5
              have yo : w3.heap.size < w4.heap.size := by omega
              have xo0 := hBo_4 0 _ rfl
              have xo1 := hBo_4 1 _ rfl
              have xo2 := hBo_4 2 _ rfl
              have xo3 := hBo_4 3 _ rfl
              have xo4 := hBo_4 4 _ rfl
              go_wp2_with (refine wpList_clear_bool rfl _ 41 4 rfl Try.underlying41 HZV.out rfl (l := ags b.ops (m + 1)) rfl (by decide) hRag_4 ?_; intro w9 hR9 hP9; have hC9 := hP9.chg)
              go_roundw
              case rel => exact ⟨m, by omega, by go_num, Chg.ext he4 hC9 (fun x hx => by simp at hx; subst hx; omega), by have := hC9.size; omega, hBb_4.chg hC9 (by omega) (by first | (simp; done) | (simp; omega)), (fun oo => (hC9.frozen _ oo (by omega)).trans (hFb_4 oo)), hBres_4.chg hC9 (by omega) (by first | (simp; done) | (simp; omega)), (fun oo => (hC9.frozen _ oo (by omega)).trans (hFres_4 oo)), (by have q := HKP.out true (by simp [q8]); rw [← q]; exact hRkp_4.chg hC9 (by first | (simp; done) | (simp; omega))), (by rw [← EA.out]; exact hR9)⟩
              case measure => (simp [intOf]; try omega)
          · 
            have q4 : (b.ops[m].kind == 4) = false := by simp; intro h; exact k45 (.inl h)
            have q5 : (b.ops[m].kind == 5) = false := by simp; intro h; exact k45 (.inr h)
            have EA := hide (ags_no b.ops m hlt k2 (fun h => k45 (.inl h)) (fun h => k45 (.inr h)) k8)
            clear k8 k2 k45
            have yo : w3.heap.size < w4.heap.size := by omega
            have xo0 := hBo_4 0 _ rfl
            have xo1 := hBo_4 1 _ rfl
            have xo2 := hBo_4 2 _ rfl
            have xo3 := hBo_4 3 _ rfl
            have xo4 := hBo_4 4 _ rfl
            go_wp2_with fail
            go_roundw
            case rel => exact ⟨m, by omega, by go_num, (Ext.hold he4), (by first | omega | (simp; omega)), (Bx.hold hBb_4), (fz_hold hFb_4), (Bx.hold hBres_4), (fz_hold hFres_4), (by have q := HKP.out true (by simp [q8]); rw [← q]; exact (FRow.hold hRkp_4)), (by rw [← EA.out]; exact hRag_4)⟩
            case measure => (simp [intOf]; try omega)

end Go.Proofs.Ytjemadbhpbbhlaa
