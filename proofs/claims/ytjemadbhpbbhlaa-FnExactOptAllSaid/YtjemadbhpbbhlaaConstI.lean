/-
  A block with its constants folded: the program.
-/
import Derived.Test.YtjemadbhpbbhlaaConstS
namespace Go.Proofs.Ytjemadbhpbbhlaa
open Go.RowKit

set_option linter.unusedVariables false
set_option linter.unusedSimpArgs false
set_option maxRecDepth 100000

theorem drew_heap (w : World) (b : Nat) : w.drew.heap[b]? = w.heap[b]? := rfl
theorem kindAt_eq {L : List IrOp} {x : Int} {a : IrOp} (h : L[x.toNat]? = some a) : kindAt L x = a.kind := by simp [kindAt, h]
theorem numAt_eq {L : List IrOp} {x : Int} {a : IrOp} (h : L[x.toNat]? = some a) : numAt L x = a.k := by simp [numAt, h]
theorem get_in {L : List IrOp} {x : Int} (h0 : 0 ≤ x) (h1 : x < (L.length : Int)) : ∃ a, L[x.toNat]? = some a := ⟨_, List.getElem?_eq_getElem (by omega)⟩
theorem rel_ext (r a b : Int) (w : World) (hr : r = 1) (ha : wordB a = true) (hb : wordB b = true) : Calls Try.prog 114 #[.int .i64 r, .int .i64 a, .int .i64 b] w fun e w' => e = .returned (.bool (decide (a = b))) ∧ Ext w w' := by
  subst hr
  exact (rel1 a b ha hb w).mono fun e w' h => ⟨h.1, by rw [← h.2]; exact Ext.refl _⟩
theorem rel_ext2 (r a b : Int) (w : World) (hr : r = 2) (ha : wordB a = true) (hb : wordB b = true) : Calls Try.prog 114 #[.int .i64 r, .int .i64 a, .int .i64 b] w fun e w' => e = .returned (.bool (decide (a < b))) ∧ Ext w w' := by
  subst hr
  exact (rel2 a b ha hb w).mono fun e w' h => ⟨h.1, by rw [← h.2]; exact Ext.refl _⟩

set_option maxHeartbeats 2000000 in
theorem constFn_any (L : List IrOp) (x : Int) (a : IrOp) (g bo off n c : Nat) (w : World) (hg : w.cell? ⟨g, 2, none⟩ = some (.slice (some ⟨bo, off, none⟩) n c)) (hR : FRow w bo off L) (ha : L[x.toNat]? = some a) (hn : n = L.length) (h0 : 0 ≤ x) :
    Calls Try.prog 112 #[.int .i64 x, .pointer (some ⟨g, 0, none⟩)] w fun e w' => e = .returned (.bool (a.kind == 1)) ∧ w = w' := by
  have h1 : x < (n : Int) := by have := (List.getElem?_eq_some_iff.1 ha).1; omega
  have hgl : g < w.heap.size := cell_lt hg
  have ybo := hR.lt
  obtain ⟨hk0, e0, e1, e2, e3, e4⟩ := hR.op ha
  clear hn ha
  go_enter Try.func112, Try.ntmps112
  go_wp2
  go_ret
  exact ⟨rfl, rfl⟩

set_option maxHeartbeats 32000000 in
theorem implOptConst_any (b : IrBlock) (vb1 : Value) (w : World) (hb1 : Sl w (Old w) vb1 b.ops) (hkb : b.Ok) :
    Calls Try.prog 61 #[.agg #[.int .i64 b.pc, .int .i64 b.len, vb1, .int .i64 b.fin, .int .i64 b.x, .int .i64 b.y, .int .i64 b.k]] w fun e w' => ∃ r1 F, e = .returned (.agg #[.int .i64 ((optConst b).pc), .int .i64 ((optConst b).len), r1, .int .i64 ((optConst b).fin), .int .i64 ((optConst b).x), .int .i64 ((optConst b).y), .int .i64 ((optConst b).k)]) ∧ OwnSl w' r1 (optConst b).ops F ∧ Fr w w' F ∧ Ext w w' := by
  obtain ⟨Ab1, cb1, rfl, hlb1, hmb1⟩ := hb1.form
  go_enter Try.func61, Try.ntmps61
  go_wp2_with fail
  have he0 : Ext w ((w.alloc (Obj.cells #[.int .i64 b.pc, .int .i64 b.len, (.slice Ab1 b.ops.length cb1), .int .i64 b.fin, .int .i64 b.x, .int .i64 b.y, .int .i64 b.k] 30)).alloc (Obj.cells #[.int .i64 0, .int .i64 0, .slice none 0 0, .int .i64 0, .int .i64 0, .int .i64 0, .int .i64 0] 30)) := (Ext.auto)
  have hs0 : w.heap.size + 2 ≤ (((w.alloc (Obj.cells #[.int .i64 b.pc, .int .i64 b.len, (.slice Ab1 b.ops.length cb1), .int .i64 b.fin, .int .i64 b.x, .int .i64 b.y, .int .i64 b.k] 30)).alloc (Obj.cells #[.int .i64 0, .int .i64 0, .slice none 0 0, .int .i64 0, .int .i64 0, .int .i64 0, .int .i64 0] 30))).heap.size := by simp
  have hq0 := hide (show (((w.alloc (Obj.cells #[.int .i64 b.pc, .int .i64 b.len, (.slice Ab1 b.ops.length cb1), .int .i64 b.fin, .int .i64 b.x, .int .i64 b.y, .int .i64 b.k] 30)).alloc (Obj.cells #[.int .i64 0, .int .i64 0, .slice none 0 0, .int .i64 0, .int .i64 0, .int .i64 0, .int .i64 0] 30))).heap.size = w.heap.size + 2 by simp)
  have hBb_0 : Bx ((w.alloc (Obj.cells #[.int .i64 b.pc, .int .i64 b.len, (.slice Ab1 b.ops.length cb1), .int .i64 b.fin, .int .i64 b.x, .int .i64 b.y, .int .i64 b.k] 30)).alloc (Obj.cells #[.int .i64 0, .int .i64 0, .slice none 0 0, .int .i64 0, .int .i64 0, .int .i64 0, .int .i64 0] 30)) (w.heap.size) [.int .i64 b.pc, .int .i64 b.len, (.slice Ab1 b.ops.length cb1), .int .i64 b.fin, .int .i64 b.x, .int .i64 b.y, .int .i64 b.k] := (by have := (Bx.alloc (Bx.new w #[.int .i64 b.pc, .int .i64 b.len, (.slice Ab1 b.ops.length cb1), .int .i64 b.fin, .int .i64 b.x, .int .i64 b.y, .int .i64 b.k] 30) (by simp) #[.int .i64 0, .int .i64 0, .slice none 0 0, .int .i64 0, .int .i64 0, .int .i64 0, .int .i64 0] 30); simpa using this)
  have hFb_0 : ∀ oo, (((w.alloc (Obj.cells #[.int .i64 b.pc, .int .i64 b.len, (.slice Ab1 b.ops.length cb1), .int .i64 b.fin, .int .i64 b.x, .int .i64 b.y, .int .i64 b.k] 30)).alloc (Obj.cells #[.int .i64 0, .int .i64 0, .slice none 0 0, .int .i64 0, .int .i64 0, .int .i64 0, .int .i64 0] 30))).frozen? ⟨w.heap.size, oo, none⟩ = false := fun oo => by simp
  have hBres_0 : Bx ((w.alloc (Obj.cells #[.int .i64 b.pc, .int .i64 b.len, (.slice Ab1 b.ops.length cb1), .int .i64 b.fin, .int .i64 b.x, .int .i64 b.y, .int .i64 b.k] 30)).alloc (Obj.cells #[.int .i64 0, .int .i64 0, .slice none 0 0, .int .i64 0, .int .i64 0, .int .i64 0, .int .i64 0] 30)) (w.heap.size + 1) [.int .i64 0, .int .i64 0, .slice none 0 0, .int .i64 0, .int .i64 0, .int .i64 0, .int .i64 0] := (by have := (Bx.new (w.alloc (Obj.cells #[.int .i64 b.pc, .int .i64 b.len, (.slice Ab1 b.ops.length cb1), .int .i64 b.fin, .int .i64 b.x, .int .i64 b.y, .int .i64 b.k] 30)) #[.int .i64 0, .int .i64 0, .slice none 0 0, .int .i64 0, .int .i64 0, .int .i64 0, .int .i64 0] 30); simpa using this)
  have hFres_0 : ∀ oo, (((w.alloc (Obj.cells #[.int .i64 b.pc, .int .i64 b.len, (.slice Ab1 b.ops.length cb1), .int .i64 b.fin, .int .i64 b.x, .int .i64 b.y, .int .i64 b.k] 30)).alloc (Obj.cells #[.int .i64 0, .int .i64 0, .slice none 0 0, .int .i64 0, .int .i64 0, .int .i64 0, .int .i64 0] 30))).frozen? ⟨w.heap.size + 1, oo, none⟩ = false := fun oo => by simp
  generalize ((w.alloc (Obj.cells #[.int .i64 b.pc, .int .i64 b.len, (.slice Ab1 b.ops.length cb1), .int .i64 b.fin, .int .i64 b.x, .int .i64 b.y, .int .i64 b.k] 30)).alloc (Obj.cells #[.int .i64 0, .int .i64 0, .slice none 0 0, .int .i64 0, .int .i64 0, .int .i64 0, .int .i64 0] 30)) = w0 at *
  refine (implIrOk_any b _ _ (hb1.ext he0) hkb).mono ?_
  rintro e w1 ⟨rfl, hy⟩
  have hx1 : Ext w0 w1 := Ext.trans (Ext.auto) hy
  have hs1 := hx1.size
  have he1 : Ext w w1 := he0.trans hx1
  have hBb_1 : Bx w1 (w.heap.size) [.int .i64 b.pc, .int .i64 b.len, (.slice Ab1 b.ops.length cb1), .int .i64 b.fin, .int .i64 b.x, .int .i64 b.y, .int .i64 b.k] := hx1.bx hBb_0 (by omega)
  have hFb_1 : ∀ oo, w1.frozen? ⟨w.heap.size, oo, none⟩ = false := fun oo => (hx1.frozen (by omega)).trans (hFb_0 oo)
  have hBres_1 : Bx w1 (w.heap.size + 1) [.int .i64 0, .int .i64 0, .slice none 0 0, .int .i64 0, .int .i64 0, .int .i64 0, .int .i64 0] := hx1.bx hBres_0 (by omega)
  have hFres_1 : ∀ oo, w1.frozen? ⟨w.heap.size + 1, oo, none⟩ = false := fun oo => (hx1.frozen (by omega)).trans (hFres_0 oo)
  clear hBb_0 hFb_0 hBres_0 hFres_0
  clear hy
  cases hok : irOkB b
  · 
    have HNO := hide (optConst_no hok)
    clear hok
    have yres : w.heap.size + 1 < w1.heap.size := by omega
    have xres0 := hBres_1 0 _ rfl
    have xres1 := hBres_1 1 _ rfl
    have xres2 := hBres_1 2 _ rfl
    have xres3 := hBres_1 3 _ rfl
    have xres4 := hBres_1 4 _ rfl
    have xres5 := hBres_1 5 _ rfl
    have xres6 := hBres_1 6 _ rfl
    have fres := hFres_1
    go_wp2
    first
    | refine bodyPost_ret (v := .agg #[.int .i64 0, .int .i64 0, .slice none 0 0, .int .i64 0, .int .i64 0, .int .i64 0, .int .i64 0]) (by simp [results, Try.results61, go_sem, xres0, xres1, xres2, xres3, xres4, xres5, xres6, yres]) rfl ⟨.slice none 0 0, [], by rw [HNO.out]; rfl, by rw [HNO.out]; exact OwnSl.nil _, Fr.nil _ _, (Ext.hold he1)⟩
    | refine bodyPost_ret (v := .agg #[.int .i64 0, .int .i64 0, .slice none 0 0, .int .i64 0, .int .i64 0, .int .i64 0, .int .i64 0]) (by simp [results, Try.results61, go_sem, xres0, xres1, xres2, xres3, xres4, xres5, xres6, yres]) rfl ⟨.slice none 0 0, by rw [HNO.out]; rfl, [], by rw [HNO.out]; exact OwnSl.nil _, Fr.nil _ _, (Ext.hold he1)⟩
  have HOK := hide hok
  clear hok
  have hn48 := ok_n HOK.out
  unfold maxLen at hmb1
  have yb : w.heap.size < w1.heap.size := by omega
  have xb0 := hBb_1 0 _ rfl
  have xb1 := hBb_1 1 _ rfl
  have xb2 := hBb_1 2 _ rfl
  have xb3 := hBb_1 3 _ rfl
  have xb4 := hBb_1 4 _ rfl
  have xb5 := hBb_1 5 _ rfl
  have xb6 := hBb_1 6 _ rfl
  go_wp2_with fail
  clear xb0 xb1 xb2 xb3 xb4 xb5 xb6 yb
  refine (cloneBlock_any b _ _ (hb1.ext he1) (by omega)).mono ?_
  rintro e w2 ⟨r1, F1, rfl, ho1, hf1, hy⟩
  have hx2 : Ext w1 w2 := Ext.trans (Ext.auto) hy
  have hs2 := hx2.size
  have he2 : Ext w w2 := he1.trans hx2
  have hBb_2 : Bx w2 (w.heap.size) [.int .i64 b.pc, .int .i64 b.len, (.slice Ab1 b.ops.length cb1), .int .i64 b.fin, .int .i64 b.x, .int .i64 b.y, .int .i64 b.k] := hx2.bx hBb_1 (by omega)
  have hFb_2 : ∀ oo, w2.frozen? ⟨w.heap.size, oo, none⟩ = false := fun oo => (hx2.frozen (by omega)).trans (hFb_1 oo)
  have hBres_2 : Bx w2 (w.heap.size + 1) [.int .i64 0, .int .i64 0, .slice none 0 0, .int .i64 0, .int .i64 0, .int .i64 0, .int .i64 0] := hx2.bx hBres_1 (by omega)
  have hFres_2 : ∀ oo, w2.frozen? ⟨w.heap.size + 1, oo, none⟩ = false := fun oo => (hx2.frozen (by omega)).trans (hFres_1 oo)
  clear hBb_1 hFb_1 hBres_1 hFres_1
  clear hy
  obtain ⟨B1, d1, rfl, hd1, hm1⟩ := ho1.sl.form
  obtain ⟨bo, oo1, hv, hbo1, hbo2, hbo3, hRo_2⟩ : ∃ bo oo1, (b.ops ≠ [] → B1 = some ⟨bo, oo1, none⟩ ∧ w1.heap.size ≤ bo) ∧ w.heap.size ≤ bo ∧ bo ≠ w.heap.size + 1 ∧ bo < w2.heap.size ∧ FRow w2 bo oo1 b.ops := by
    by_cases hK0 : b.ops = []
    · exact ⟨w.heap.size, 0, fun h => absurd hK0 h, Nat.le_refl _, by omega, by omega, ⟨fun o => hFb_2 o, by omega, fun i a ha => by rw [hK0] at ha; simp at ha⟩⟩
    · obtain ⟨bo, oo1, hv, hge, hRo⟩ := FRow.of_own ho1 hf1 (by cases hq : b.ops with | nil => exact absurd hq hK0 | cons a l => simp)
      exact ⟨bo, oo1, fun _ => ⟨hv, hge⟩, by omega, by omega, hRo.lt, hRo⟩
  have HV := hide hv
  clear hv
  go_wp2_with fail
  have he3 : Ext w (w2.alloc (Obj.cells #[.int .i64 b.pc, .int .i64 b.len, (.slice B1 b.ops.length d1), .int .i64 b.fin, .int .i64 b.x, .int .i64 b.y, .int .i64 b.k] 30)) := (Ext.hold he2)
  have hs3 : w2.heap.size + 1 ≤ ((w2.alloc (Obj.cells #[.int .i64 b.pc, .int .i64 b.len, (.slice B1 b.ops.length d1), .int .i64 b.fin, .int .i64 b.x, .int .i64 b.y, .int .i64 b.k] 30))).heap.size := by simp
  have hq3 := hide (show ((w2.alloc (Obj.cells #[.int .i64 b.pc, .int .i64 b.len, (.slice B1 b.ops.length d1), .int .i64 b.fin, .int .i64 b.x, .int .i64 b.y, .int .i64 b.k] 30))).heap.size = w2.heap.size + 1 by simp)
  have hlto_3 : bo < w2.heap.size := hRo_2.lt
  have hBb_3 : Bx ((w2.alloc (Obj.cells #[.int .i64 b.pc, .int .i64 b.len, (.slice B1 b.ops.length d1), .int .i64 b.fin, .int .i64 b.x, .int .i64 b.y, .int .i64 b.k] 30))) (w.heap.size) [.int .i64 b.pc, .int .i64 b.len, (.slice Ab1 b.ops.length cb1), .int .i64 b.fin, .int .i64 b.x, .int .i64 b.y, .int .i64 b.k] := Bx.hold hBb_2
  have hFb_3 : ∀ oo, ((w2.alloc (Obj.cells #[.int .i64 b.pc, .int .i64 b.len, (.slice B1 b.ops.length d1), .int .i64 b.fin, .int .i64 b.x, .int .i64 b.y, .int .i64 b.k] 30))).frozen? ⟨w.heap.size, oo, none⟩ = false := (fz_hold hFb_2)
  have hBres_3 : Bx ((w2.alloc (Obj.cells #[.int .i64 b.pc, .int .i64 b.len, (.slice B1 b.ops.length d1), .int .i64 b.fin, .int .i64 b.x, .int .i64 b.y, .int .i64 b.k] 30))) (w.heap.size + 1) [.int .i64 0, .int .i64 0, .slice none 0 0, .int .i64 0, .int .i64 0, .int .i64 0, .int .i64 0] := Bx.hold hBres_2
  have hFres_3 : ∀ oo, ((w2.alloc (Obj.cells #[.int .i64 b.pc, .int .i64 b.len, (.slice B1 b.ops.length d1), .int .i64 b.fin, .int .i64 b.x, .int .i64 b.y, .int .i64 b.k] 30))).frozen? ⟨w.heap.size + 1, oo, none⟩ = false := (fz_hold hFres_2)
  have hRo_3 : FRow ((w2.alloc (Obj.cells #[.int .i64 b.pc, .int .i64 b.len, (.slice B1 b.ops.length d1), .int .i64 b.fin, .int .i64 b.x, .int .i64 b.y, .int .i64 b.k] 30))) (bo) oo1 (b.ops) := FRow.hold hRo_2
  have hBu_3 : Bx ((w2.alloc (Obj.cells #[.int .i64 b.pc, .int .i64 b.len, (.slice B1 b.ops.length d1), .int .i64 b.fin, .int .i64 b.x, .int .i64 b.y, .int .i64 b.k] 30))) (w2.heap.size) [.int .i64 b.pc, .int .i64 b.len, (.slice B1 b.ops.length d1), .int .i64 b.fin, .int .i64 b.x, .int .i64 b.y, .int .i64 b.k] := (Bx.new w2 #[.int .i64 b.pc, .int .i64 b.len, (.slice B1 b.ops.length d1), .int .i64 b.fin, .int .i64 b.x, .int .i64 b.y, .int .i64 b.k] 30)
  have hFu_3 : ∀ oo, ((w2.alloc (Obj.cells #[.int .i64 b.pc, .int .i64 b.len, (.slice B1 b.ops.length d1), .int .i64 b.fin, .int .i64 b.x, .int .i64 b.y, .int .i64 b.k] 30))).frozen? ⟨w2.heap.size, oo, none⟩ = false := (fz_new w2 #[.int .i64 b.pc, .int .i64 b.len, (.slice B1 b.ops.length d1), .int .i64 b.fin, .int .i64 b.x, .int .i64 b.y, .int .i64 b.k] 30 rfl)
  generalize (w2.alloc (Obj.cells #[.int .i64 b.pc, .int .i64 b.len, (.slice B1 b.ops.length d1), .int .i64 b.fin, .int .i64 b.x, .int .i64 b.y, .int .i64 b.k] 30)) = w3 at *
  clear hBb_2 hFb_2 hBres_2 hFres_2 hRo_2
  go_loopw [17] (fun i w4 => ∃ (k : Nat), k ≤ b.ops.length ∧ i = .int .i64 (k : Int) ∧ Ext w w4 ∧ w3.heap.size ≤ w4.heap.size ∧ Bx w4 (w.heap.size) [.int .i64 b.pc, .int .i64 b.len, (.slice Ab1 b.ops.length cb1), .int .i64 b.fin, .int .i64 b.x, .int .i64 b.y, .int .i64 b.k] ∧ (∀ oo, w4.frozen? ⟨w.heap.size, oo, none⟩ = false) ∧ Bx w4 (w.heap.size + 1) [.int .i64 0, .int .i64 0, .slice none 0 0, .int .i64 0, .int .i64 0, .int .i64 0, .int .i64 0] ∧ (∀ oo, w4.frozen? ⟨w.heap.size + 1, oo, none⟩ = false) ∧ Bx w4 (w2.heap.size) [.int .i64 b.pc, .int .i64 b.len, (.slice B1 b.ops.length d1), .int .i64 b.fin, .int .i64 b.x, .int .i64 b.y, .int .i64 b.k] ∧ (∀ oo, w4.frozen? ⟨w2.heap.size, oo, none⟩ = false) ∧ FRow w4 (bo) oo1 (foldTo b.ops k)) (fun i _ => b.ops.length - (intOf i).toNat)
  case atStart => exact ⟨0, by omega, rfl, he3, Nat.le_refl _, hBb_3, hFb_3, hBres_3, hFres_3, hBu_3, hFu_3, hRo_3⟩
  case round =>
    obtain ⟨w4, hwr⟩ : ∃ w4 : World, w4 = wr := ⟨_, rfl⟩
    subst hwr
    obtain ⟨k, hk, rfl, he4, hs4, hBb_4, hFb_4, hBres_4, hFres_4, hBu_4, hFu_4, hRo_4⟩ := hrel
    by_cases hlt : k < b.ops.length
    · 
      obtain ⟨hB1, hbo4⟩ := HV.out (by intro h; rw [h] at hlt; simp at hlt)
      subst hB1
      have z0 : (0 : Int) ≤ (k : Int) := by omega
      have z1 : (k : Int) < (b.ops.length : Int) := by omega
      have HLF := hide (foldTo_length b.ops k)
      have HG := hide (foldTo_get b.ops k hlt)
      obtain ⟨hk0, e0, e1, e2, e3, e4⟩ := hRo_4.op HG.out
      have ybo : bo < w4.heap.size := hRo_4.lt
      have HB := ok_below HOK.out k hlt
      have HD := hide (fun q => op_d (ok_ops HOK.out k hlt) q)
      have yu : w2.heap.size < w4.heap.size := by omega
      have xu0 := hBu_4 0 _ rfl
      have xu1 := hBu_4 1 _ rfl
      have xu2 := hBu_4 2 _ rfl
      have xu3 := hBu_4 3 _ rfl
      have xu4 := hBu_4 4 _ rfl
      have xu5 := hBu_4 5 _ rfl
      have xu6 := hBu_4 6 _ rfl
      go_upto_region 8 with fail
      clear xu0 xu1 xu2 xu3 xu4 xu5 xu6 yu
      have he5 : Ext w (w4.alloc (Obj.cells #[.int .i64 (b.ops[k].kind), .int .i64 (b.ops[k].x), .int .i64 (b.ops[k].y), .int .i64 (b.ops[k].k), .int .i64 (b.ops[k].at_)] 92)) := (Ext.hold he4)
      have hs5 : w4.heap.size + 1 ≤ ((w4.alloc (Obj.cells #[.int .i64 (b.ops[k].kind), .int .i64 (b.ops[k].x), .int .i64 (b.ops[k].y), .int .i64 (b.ops[k].k), .int .i64 (b.ops[k].at_)] 92))).heap.size := by simp
      have hq5 := hide (show ((w4.alloc (Obj.cells #[.int .i64 (b.ops[k].kind), .int .i64 (b.ops[k].x), .int .i64 (b.ops[k].y), .int .i64 (b.ops[k].k), .int .i64 (b.ops[k].at_)] 92))).heap.size = w4.heap.size + 1 by simp)
      have hlto_5 : bo < w4.heap.size := hRo_4.lt
      have hBb_5 : Bx ((w4.alloc (Obj.cells #[.int .i64 (b.ops[k].kind), .int .i64 (b.ops[k].x), .int .i64 (b.ops[k].y), .int .i64 (b.ops[k].k), .int .i64 (b.ops[k].at_)] 92))) (w.heap.size) [.int .i64 b.pc, .int .i64 b.len, (.slice Ab1 b.ops.length cb1), .int .i64 b.fin, .int .i64 b.x, .int .i64 b.y, .int .i64 b.k] := Bx.hold hBb_4
      have hFb_5 : ∀ oo, ((w4.alloc (Obj.cells #[.int .i64 (b.ops[k].kind), .int .i64 (b.ops[k].x), .int .i64 (b.ops[k].y), .int .i64 (b.ops[k].k), .int .i64 (b.ops[k].at_)] 92))).frozen? ⟨w.heap.size, oo, none⟩ = false := (fz_hold hFb_4)
      have hBres_5 : Bx ((w4.alloc (Obj.cells #[.int .i64 (b.ops[k].kind), .int .i64 (b.ops[k].x), .int .i64 (b.ops[k].y), .int .i64 (b.ops[k].k), .int .i64 (b.ops[k].at_)] 92))) (w.heap.size + 1) [.int .i64 0, .int .i64 0, .slice none 0 0, .int .i64 0, .int .i64 0, .int .i64 0, .int .i64 0] := Bx.hold hBres_4
      have hFres_5 : ∀ oo, ((w4.alloc (Obj.cells #[.int .i64 (b.ops[k].kind), .int .i64 (b.ops[k].x), .int .i64 (b.ops[k].y), .int .i64 (b.ops[k].k), .int .i64 (b.ops[k].at_)] 92))).frozen? ⟨w.heap.size + 1, oo, none⟩ = false := (fz_hold hFres_4)
      have hBu_5 : Bx ((w4.alloc (Obj.cells #[.int .i64 (b.ops[k].kind), .int .i64 (b.ops[k].x), .int .i64 (b.ops[k].y), .int .i64 (b.ops[k].k), .int .i64 (b.ops[k].at_)] 92))) (w2.heap.size) [.int .i64 b.pc, .int .i64 b.len, (.slice (some ⟨bo, oo1, none⟩) b.ops.length d1), .int .i64 b.fin, .int .i64 b.x, .int .i64 b.y, .int .i64 b.k] := Bx.hold hBu_4
      have hFu_5 : ∀ oo, ((w4.alloc (Obj.cells #[.int .i64 (b.ops[k].kind), .int .i64 (b.ops[k].x), .int .i64 (b.ops[k].y), .int .i64 (b.ops[k].k), .int .i64 (b.ops[k].at_)] 92))).frozen? ⟨w2.heap.size, oo, none⟩ = false := (fz_hold hFu_4)
      have hRo_5 : FRow ((w4.alloc (Obj.cells #[.int .i64 (b.ops[k].kind), .int .i64 (b.ops[k].x), .int .i64 (b.ops[k].y), .int .i64 (b.ops[k].k), .int .i64 (b.ops[k].at_)] 92))) (bo) oo1 (foldTo b.ops k) := FRow.hold hRo_4
      have hBo_5 : Bx ((w4.alloc (Obj.cells #[.int .i64 (b.ops[k].kind), .int .i64 (b.ops[k].x), .int .i64 (b.ops[k].y), .int .i64 (b.ops[k].k), .int .i64 (b.ops[k].at_)] 92))) (w4.heap.size) [.int .i64 (b.ops[k].kind), .int .i64 (b.ops[k].x), .int .i64 (b.ops[k].y), .int .i64 (b.ops[k].k), .int .i64 (b.ops[k].at_)] := (Bx.new w4 #[.int .i64 (b.ops[k].kind), .int .i64 (b.ops[k].x), .int .i64 (b.ops[k].y), .int .i64 (b.ops[k].k), .int .i64 (b.ops[k].at_)] 92)
      have hFo_5 : ∀ oo, ((w4.alloc (Obj.cells #[.int .i64 (b.ops[k].kind), .int .i64 (b.ops[k].x), .int .i64 (b.ops[k].y), .int .i64 (b.ops[k].k), .int .i64 (b.ops[k].at_)] 92))).frozen? ⟨w4.heap.size, oo, none⟩ = false := (fz_new w4 #[.int .i64 (b.ops[k].kind), .int .i64 (b.ops[k].x), .int .i64 (b.ops[k].y), .int .i64 (b.ops[k].k), .int .i64 (b.ops[k].at_)] 92 rfl)
      generalize (w4.alloc (Obj.cells #[.int .i64 (b.ops[k].kind), .int .i64 (b.ops[k].x), .int .i64 (b.ops[k].y), .int .i64 (b.ops[k].k), .int .i64 (b.ops[k].at_)] 92)) = w5 at *
      clear hBb_4 hFb_4 hBres_4 hFres_4 hBu_4 hFu_4 hRo_4
      clear e0 e1 e2 e3 e4 ybo
      by_cases k3 : b.ops[k].kind = 3
      · 
        have q3 : (b.ops[k].kind == 3) = true := by simp [k3]
        obtain ⟨hix0, hix1⟩ := HB.1 (by rw [k3]; rfl)
        obtain ⟨hiy0, hiy1⟩ := HB.2 (by rw [k3]; rfl)
        have hix2 : b.ops[k].x < (b.ops.length : Int) := by omega
        have hiy2 : b.ops[k].y < (b.ops.length : Int) := by omega
        obtain ⟨ax, hax⟩ := get_in (L := (foldTo b.ops k)) hix0 (by rw [HLF.out]; omega)
        obtain ⟨ay, hay⟩ := get_in (L := (foldTo b.ops k)) hiy0 (by rw [HLF.out]; omega)
        have HAx := hide hax
        have HAy := hide hay
        have HOP := hide (HD.out k3)
        have K3 := hide k3
        clear k3 hax hay
        have yu : w2.heap.size < w5.heap.size := by omega
        have xu0 := hBu_5 0 _ rfl
        have xu1 := hBu_5 1 _ rfl
        have xu2 := hBu_5 2 _ rfl
        have xu3 := hBu_5 3 _ rfl
        have xu4 := hBu_5 4 _ rfl
        have xu5 := hBu_5 5 _ rfl
        have xu6 := hBu_5 6 _ rfl
        have yo : w4.heap.size < w5.heap.size := by omega
        have xo0 := hBo_5 0 _ rfl
        have xo1 := hBo_5 1 _ rfl
        have xo2 := hBo_5 2 _ rfl
        have xo3 := hBo_5 3 _ rfl
        have xo4 := hBo_5 4 _ rfl
        go_wp2_with fail
        refine (constFn_any (foldTo b.ops k) b.ops[k].x ax _ _ _ _ _ _ xu2 hRo_5 HAx.out HLF.out.symm hix0).mono ?_
        rintro e w' ⟨rfl, rfl⟩
        cases hqx : (ax.kind == 1)
        · 
          have HQX := hide hqx
          clear hqx
          go_wp2_with fail
          go_roundw
          case rel => exact ⟨k + 1, by omega, by go_num, (Ext.hold he5), (by first | omega | (simp; omega)), (Bx.hold hBb_5), (fz_hold hFb_5), (Bx.hold hBres_5), (fz_hold hFres_5), (Bx.hold hBu_5), (fz_hold hFu_5), (by rw [fold_same b.ops k hlt (fun h => fold_no rfl HQX.out ((kindAt_eq HAx.out).symm.trans h.2.1))]; exact hRo_5)⟩
          case measure => (simp [intOf]; try omega)
        · 
          go_wp2_with fail
          refine (constFn_any (foldTo b.ops k) b.ops[k].y ay _ _ _ _ _ _ xu2 hRo_5 HAy.out HLF.out.symm hiy0).mono ?_
          rintro e w' ⟨rfl, rfl⟩
          have HQX := hide hqx
          clear hqx
          cases hqy : (ay.kind == 1)
          · 
            have HQY := hide hqy
            clear hqy
            go_wp2_with fail
            go_roundw
            case rel => exact ⟨k + 1, by omega, by go_num, (Ext.hold he5), (by first | omega | (simp; omega)), (Bx.hold hBb_5), (fz_hold hFb_5), (Bx.hold hBres_5), (fz_hold hFres_5), (Bx.hold hBu_5), (fz_hold hFu_5), (by rw [fold_same b.ops k hlt (fun h => fold_no rfl HQY.out ((kindAt_eq HAy.out).symm.trans h.2.2))]; exact hRo_5)⟩
            case measure => (simp [intOf]; try omega)
          · 
            have HQY := hide hqy
            clear hqy
            have hkx : kindAt (foldTo b.ops k) b.ops[k].x = 1 := by rw [kindAt_eq HAx.out]; exact fold_yes rfl HQX.out
            have hky : kindAt (foldTo b.ops k) b.ops[k].y = 1 := by rw [kindAt_eq HAy.out]; exact fold_yes rfl HQY.out
            have hpx := numAt_eq HAx.out
            have hpy := numAt_eq HAy.out
            have HWX := hide (num_wordk HOK.out k hk _ hkx)
            have HWY := hide (num_wordk HOK.out k hk _ hky)
            have HN := hide (fold_new b.ops k hlt K3.out hkx hky)
            have HOW := hide (const_ok _ (wrdDo_word b.ops[k].k (numAt (foldTo b.ops k) b.ops[k].x) (numAt (foldTo b.ops k) b.ops[k].y)))
            rw [hpx] at HWX HN HOW
            rw [hpy] at HWY HN HOW
            clear hkx hky hpx hpy
            obtain ⟨hkx9, f0, f1, f2, f3, f4⟩ := hRo_5.op HAx.out
            obtain ⟨hky9, g0, g1, g2, g3, g4⟩ := hRo_5.op HAy.out
            have ybo : bo < w5.heap.size := hRo_5.lt
            go_upto_region 9 with fail
            have hS : ∀ w', Ext w5 w' → ∀ bb oo, bb < w5.heap.size → w'.cell? ⟨bb, oo, none⟩ = w5.cell? ⟨bb, oo, none⟩ := fun w' hx bb oo hb => hx.cell hb
            refine wp_region_plan (fun w' => Ext w5 w') 21 (.float 0 (.float 1 (.float 2 (.float 3 (.float 4 (.float 5 (.float 6 (.float 7 (.float 8 (.float 9 (.float 10 (.float 11 (.float 12 (.float 13 (.float 14 (.float 15 (.float 16 (.float 17 (.float 18 (.chain 19 (.float 20 (.tail 21)))))))))))))))))))))) (by kernel_rfl) (by kernel_rfl) (Ext.refl _).drew ?_
            iterate 19 ((refine Plan.float_step (v := ?_) rfl (by rfl) (fun _ _ _ h => h) (fun w' hSw => ?_) ?_; rotate_left; · (go_simp; try with_reducible rfl)); (try simp only [Act.put, List.setIfInBounds_toArray, List.set_cons_zero, List.set_cons_succ]))
            refine Plan.chain_step rfl (fun K hK => ?_)
            go_simp
            refine (implWrdDo_ext b.ops[k].k ax.k ay.k _ HOP.out HWX.out HWY.out).mono ?_
            rintro e w6 ⟨rfl, hy⟩
            refine hK.out _ _ (Ext.trans (Ext.auto) hy) ?_
            clear hK
            (try simp only [Act.put, List.setIfInBounds_toArray, List.set_cons_zero, List.set_cons_succ])
            clear xu0 xu1 xu2 xu3 xu4 xu5 xu6 yu
            clear xo0 xo1 xo2 xo3 xo4 yo
            have hx6 : Ext w5 w6 := Ext.trans (Ext.auto) hy
            have hs6 := hx6.size
            have he6 : Ext w w6 := he5.trans hx6
            have hBb_6 : Bx w6 (w.heap.size) [.int .i64 b.pc, .int .i64 b.len, (.slice Ab1 b.ops.length cb1), .int .i64 b.fin, .int .i64 b.x, .int .i64 b.y, .int .i64 b.k] := hx6.bx hBb_5 (by omega)
            have hFb_6 : ∀ oo, w6.frozen? ⟨w.heap.size, oo, none⟩ = false := fun oo => (hx6.frozen (by omega)).trans (hFb_5 oo)
            have hBres_6 : Bx w6 (w.heap.size + 1) [.int .i64 0, .int .i64 0, .slice none 0 0, .int .i64 0, .int .i64 0, .int .i64 0, .int .i64 0] := hx6.bx hBres_5 (by omega)
            have hFres_6 : ∀ oo, w6.frozen? ⟨w.heap.size + 1, oo, none⟩ = false := fun oo => (hx6.frozen (by omega)).trans (hFres_5 oo)
            have hBu_6 : Bx w6 (w2.heap.size) [.int .i64 b.pc, .int .i64 b.len, (.slice (some ⟨bo, oo1, none⟩) b.ops.length d1), .int .i64 b.fin, .int .i64 b.x, .int .i64 b.y, .int .i64 b.k] := hx6.bx hBu_5 (by omega)
            have hFu_6 : ∀ oo, w6.frozen? ⟨w2.heap.size, oo, none⟩ = false := fun oo => (hx6.frozen (by omega)).trans (hFu_5 oo)
            have hBo_6 : Bx w6 (w4.heap.size) [.int .i64 (b.ops[k].kind), .int .i64 (b.ops[k].x), .int .i64 (b.ops[k].y), .int .i64 (b.ops[k].k), .int .i64 (b.ops[k].at_)] := hx6.bx hBo_5 (by omega)
            have hFo_6 : ∀ oo, w6.frozen? ⟨w4.heap.size, oo, none⟩ = false := fun oo => (hx6.frozen (by omega)).trans (hFo_5 oo)
            clear hBb_5 hFb_5 hBres_5 hFres_5 hBu_5 hFu_5 hBo_5 hFo_5
            have hRo_6 : FRow w6 (bo) oo1 (foldTo b.ops k) := hRo_5.ext hx6
            clear hRo_5
            clear hy
            (refine Plan.float_step (v := ?_) rfl (by rfl) (fun _ _ _ h => h) (fun w' hSw => ?_) ?_; rotate_left; · (go_simp; try with_reducible rfl)); (try simp only [Act.put, List.setIfInBounds_toArray, List.set_cons_zero, List.set_cons_succ])
            refine Plan.tail_step ?_
            simp only [List.drop_succ_cons, List.drop_zero]
            clear hS
            clear f0 f1 f2 f3 f4 g0 g1 g2 g3 g4 ybo
            obtain ⟨hk9, e0, e1, e2, e3, e4⟩ := hRo_6.op HG.out
            have zo := hRo_6.fz
            have ybo : bo < w6.heap.size := hRo_6.lt
            go_wp2_with fail
            go_roundw
            case rel => exact ⟨k + 1, by omega, by go_num, (Ext.hold he6), (by first | omega | (simp; omega)), (Bx.hold hBb_6), (fz_hold hFb_6), (Bx.hold hBres_6), (fz_hold hFres_6), (Bx.hold hBu_6), (fz_hold hFu_6), (by rw [HN.out]; exact hRo_6.setOp HG.out ⟨1, 0, 0, wrdDo b.ops[k].k ax.k ay.k, 0⟩ HOW.out)⟩
            case measure => (simp [intOf]; try omega)
      · 
        have q3 : (b.ops[k].kind == 3) = false := by simp [k3]
        have K3 := hide k3
        clear k3
        have yu : w2.heap.size < w5.heap.size := by omega
        have xu0 := hBu_5 0 _ rfl
        have xu1 := hBu_5 1 _ rfl
        have xu2 := hBu_5 2 _ rfl
        have xu3 := hBu_5 3 _ rfl
        have xu4 := hBu_5 4 _ rfl
        have xu5 := hBu_5 5 _ rfl
        have xu6 := hBu_5 6 _ rfl
        have yo : w4.heap.size < w5.heap.size := by omega
        have xo0 := hBo_5 0 _ rfl
        have xo1 := hBo_5 1 _ rfl
        have xo2 := hBo_5 2 _ rfl
        have xo3 := hBo_5 3 _ rfl
        have xo4 := hBo_5 4 _ rfl
        go_wp2_with fail
        go_roundw
        case rel => exact ⟨k + 1, by omega, by go_num, (Ext.hold he5), (by first | omega | (simp; omega)), (Bx.hold hBb_5), (fz_hold hFb_5), (Bx.hold hBres_5), (fz_hold hFres_5), (Bx.hold hBu_5), (fz_hold hFu_5), (by rw [fold_same b.ops k hlt (fun h => K3.out h.1)]; exact hRo_5)⟩
        case measure => (simp [intOf]; try omega)
    · 
      obtain rfl : k = b.ops.length := by omega
      have HDB := hide (optConst_eq HOK.out)
      have HE := hide (ok_end HOK.out)
      obtain ⟨hp0, hp1⟩ := ok_pc HOK.out
      obtain ⟨hl0, hl1⟩ := ok_len HOK.out
      have HLF := hide (foldTo_length b.ops b.ops.length)
      have HFE := end_fin HE.out
      have HC : b.fin = 1 ∨ b.fin = 2 ∨ b.fin = 3 ∨ b.fin = 4 := by omega
      clear HFE
      rcases HC with e | e | e | e
      · 
        have q2 : (b.fin == 2) = false := by rw [e]; rfl
        have q3 : decide (3 ≤ b.fin) = false := by rw [e]; rfl
        have HF := hide e
        clear e
        have hE : ∃ F, Sl w4 (Old w4) (.slice B1 b.ops.length d1) (foldTo b.ops b.ops.length) ∧ OwnSl w4 (.slice B1 b.ops.length d1) (foldTo b.ops b.ops.length) F ∧ Fr w w4 F ∧ ∀ q, q ∈ F → q = bo ∧ w1.heap.size ≤ bo := by
          by_cases hK0 : b.ops = []
          · rw [show foldTo b.ops b.ops.length = b.ops by rw [hK0]; rfl]
            have q := empty_sl ho1 hK0 w4
            exact ⟨[], q.1, q.2, Fr.nil _ _, fun q hq => by simp at hq⟩
          · obtain ⟨hB1, hbo4⟩ := HV.out hK0
            subst hB1
            obtain ⟨F, g1, g2, g3⟩ := hRo_4.ownB (n := b.ops.length) (c := d1) (by simp [foldTo_length]) (by simpa [foldTo_length] using hd1) hm1 (show w.heap.size ≤ bo by omega)
            exact ⟨F, hRo_4.sl (n := b.ops.length) (c := d1) (by simp [foldTo_length]) (by simpa [foldTo_length] using hd1) hm1, g1, g2, fun q hq => ⟨g3 q hq, hbo4⟩⟩
        obtain ⟨F5, hS5, ho5, hf5, hq5⟩ := hE
        have yb : w.heap.size < w4.heap.size := by omega
        have xb0 := hBb_4 0 _ rfl
        have xb1 := hBb_4 1 _ rfl
        have xb2 := hBb_4 2 _ rfl
        have xb3 := hBb_4 3 _ rfl
        have xb4 := hBb_4 4 _ rfl
        have xb5 := hBb_4 5 _ rfl
        have xb6 := hBb_4 6 _ rfl
        have yu : w2.heap.size < w4.heap.size := by omega
        have xu0 := hBu_4 0 _ rfl
        have xu1 := hBu_4 1 _ rfl
        have xu2 := hBu_4 2 _ rfl
        have xu3 := hBu_4 3 _ rfl
        have xu4 := hBu_4 4 _ rfl
        have xu5 := hBu_4 5 _ rfl
        have xu6 := hBu_4 6 _ rfl
        have fu := hFu_4
        have yres : w.heap.size + 1 < w4.heap.size := by omega
        have xres0 := hBres_4 0 _ rfl
        have xres1 := hBres_4 1 _ rfl
        have xres2 := hBres_4 2 _ rfl
        have xres3 := hBres_4 3 _ rfl
        have xres4 := hBres_4 4 _ rfl
        have xres5 := hBres_4 5 _ rfl
        have xres6 := hBres_4 6 _ rfl
        have fres := hFres_4
        go_wp2
        have HR : endConst b (foldTo b.ops b.ops.length) = ⟨b.pc, b.len, (foldTo b.ops b.ops.length), b.fin, b.x, b.y, b.k⟩ := by exact ec_no (⟨b.pc, b.len, foldTo b.ops b.ops.length, b.fin, b.x, b.y, b.k⟩ : IrBlock) (fun h => by have q := h.1.symm.trans HF.out; simp at q) (fun h => by have q := h.1; rw [show (⟨b.pc, b.len, foldTo b.ops b.ops.length, b.fin, b.x, b.y, b.k⟩ : IrBlock).fin = 1 from HF.out] at q; exact absurd q (by decide))
        first
        | refine bodyPost_ret (v := .agg #[.int .i64 b.pc, .int .i64 b.len, (.slice B1 b.ops.length d1), .int .i64 (b.fin), .int .i64 (b.x), .int .i64 (b.y), .int .i64 (b.k)]) (by simp [results, Try.results61, go_sem, xres0, xres1, xres2, xres3, xres4, xres5, xres6, yres]) rfl ⟨_, F5, by rw [HDB.out, HR], ?_, ?_, ?_⟩
        | refine bodyPost_ret (v := .agg #[.int .i64 b.pc, .int .i64 b.len, (.slice B1 b.ops.length d1), .int .i64 (b.fin), .int .i64 (b.x), .int .i64 (b.y), .int .i64 (b.k)]) (by simp [results, Try.results61, go_sem, xres0, xres1, xres2, xres3, xres4, xres5, xres6, yres]) rfl ⟨_, by rw [HDB.out, HR], F5, ?_, ?_, ?_⟩
        · rw [HDB.out, endConst_ops]
          exact OwnSl.stay ho5 (fun b hb => by
            have q := hf5.2 b hb; have q1 := q.1; have q2 := q.2
            obtain ⟨q3, q4⟩ := hq5 b hb
            (try rw [drew_heap])
            repeat (first | rw [heap_set _ _ _ _ (by simp; omega)] | rw [drew_heap]))
        · exact hf5.mk1 (by omega) (by first | (simp; done) | (simp; omega))
        · exact (Ext.hold he4)
      · 
        have q2 : (b.fin == 2) = true := by rw [e]; rfl
        have q3 : decide (3 ≤ b.fin) = false := by rw [e]; rfl
        obtain ⟨hix0, hix1⟩ := end_x HE.out (by rw [e]; rfl)
        obtain ⟨hB1, hbo4⟩ := HV.out (by intro h; rw [h] at hix1; simp at hix1; omega)
        subst hB1
        obtain ⟨ax, hax⟩ := get_in (L := (foldTo b.ops b.ops.length)) hix0 (by rw [HLF.out]; exact hix1)
        have HAx := hide hax
        have HY0 := hide (fun q => end_y0 HE.out (.inr q))
        clear hax
        have HF := hide e
        clear e
        have yb : w.heap.size < w4.heap.size := by omega
        have xb0 := hBb_4 0 _ rfl
        have xb1 := hBb_4 1 _ rfl
        have xb2 := hBb_4 2 _ rfl
        have xb3 := hBb_4 3 _ rfl
        have xb4 := hBb_4 4 _ rfl
        have xb5 := hBb_4 5 _ rfl
        have xb6 := hBb_4 6 _ rfl
        have yu : w2.heap.size < w4.heap.size := by omega
        have xu0 := hBu_4 0 _ rfl
        have xu1 := hBu_4 1 _ rfl
        have xu2 := hBu_4 2 _ rfl
        have xu3 := hBu_4 3 _ rfl
        have xu4 := hBu_4 4 _ rfl
        have xu5 := hBu_4 5 _ rfl
        have xu6 := hBu_4 6 _ rfl
        have fu := hFu_4
        go_wp2_with fail
        refine (constFn_any (foldTo b.ops b.ops.length) b.x ax _ _ _ _ _ _ xu2 hRo_4 HAx.out HLF.out.symm hix0).mono ?_
        rintro e w' ⟨rfl, rfl⟩
        cases hqx : (ax.kind == 1)
        · 
          have HQX := hide hqx
          clear hqx
          have hE : ∃ F, Sl w4 (Old w4) (.slice (some ⟨bo, oo1, none⟩) b.ops.length d1) (foldTo b.ops b.ops.length) ∧ OwnSl w4 (.slice (some ⟨bo, oo1, none⟩) b.ops.length d1) (foldTo b.ops b.ops.length) F ∧ Fr w w4 F ∧ ∀ q, q ∈ F → q = bo ∧ w1.heap.size ≤ bo := by
            by_cases hK0 : b.ops = []
            · rw [show foldTo b.ops b.ops.length = b.ops by rw [hK0]; rfl]
              have q := empty_sl ho1 hK0 w4
              exact ⟨[], q.1, q.2, Fr.nil _ _, fun q hq => by simp at hq⟩
            · obtain ⟨hB1, hbo4⟩ := HV.out hK0
              obtain ⟨F, g1, g2, g3⟩ := hRo_4.ownB (n := b.ops.length) (c := d1) (by simp [foldTo_length]) (by simpa [foldTo_length] using hd1) hm1 (show w.heap.size ≤ bo by omega)
              exact ⟨F, hRo_4.sl (n := b.ops.length) (c := d1) (by simp [foldTo_length]) (by simpa [foldTo_length] using hd1) hm1, g1, g2, fun q hq => ⟨g3 q hq, hbo4⟩⟩
          obtain ⟨F5, hS5, ho5, hf5, hq5⟩ := hE
          have yres : w.heap.size + 1 < w4.heap.size := by omega
          have xres0 := hBres_4 0 _ rfl
          have xres1 := hBres_4 1 _ rfl
          have xres2 := hBres_4 2 _ rfl
          have xres3 := hBres_4 3 _ rfl
          have xres4 := hBres_4 4 _ rfl
          have xres5 := hBres_4 5 _ rfl
          have xres6 := hBres_4 6 _ rfl
          have fres := hFres_4
          go_wp2
          have HR : endConst b (foldTo b.ops b.ops.length) = ⟨b.pc, b.len, (foldTo b.ops b.ops.length), b.fin, b.x, b.y, b.k⟩ := by exact ec_no (⟨b.pc, b.len, foldTo b.ops b.ops.length, b.fin, b.x, b.y, b.k⟩ : IrBlock) (fun h => fold_no rfl HQX.out ((kindAt_eq HAx.out).symm.trans h.2)) (fun h => fold_no rfl HQX.out ((kindAt_eq HAx.out).symm.trans h.2.1))
          first
          | refine bodyPost_ret (v := .agg #[.int .i64 b.pc, .int .i64 b.len, (.slice (some ⟨bo, oo1, none⟩) b.ops.length d1), .int .i64 (b.fin), .int .i64 (b.x), .int .i64 (b.y), .int .i64 (b.k)]) (by simp [results, Try.results61, go_sem, xres0, xres1, xres2, xres3, xres4, xres5, xres6, yres]) rfl ⟨_, F5, by rw [HDB.out, HR], ?_, ?_, ?_⟩
          | refine bodyPost_ret (v := .agg #[.int .i64 b.pc, .int .i64 b.len, (.slice (some ⟨bo, oo1, none⟩) b.ops.length d1), .int .i64 (b.fin), .int .i64 (b.x), .int .i64 (b.y), .int .i64 (b.k)]) (by simp [results, Try.results61, go_sem, xres0, xres1, xres2, xres3, xres4, xres5, xres6, yres]) rfl ⟨_, by rw [HDB.out, HR], F5, ?_, ?_, ?_⟩
          · rw [HDB.out, endConst_ops]
            exact OwnSl.stay ho5 (fun b hb => by
              have q := hf5.2 b hb; have q1 := q.1; have q2 := q.2
              obtain ⟨q3, q4⟩ := hq5 b hb
              (try rw [drew_heap])
              repeat (first | rw [heap_set _ _ _ _ (by simp; omega)] | rw [drew_heap]))
          · exact hf5.mk1 (by omega) (by first | (simp; done) | (simp; omega))
          · exact (Ext.hold he4)
        · 
          have HQX := hide hqx
          clear hqx
          obtain ⟨hkx9, f0, f1, f2, f3, f4⟩ := hRo_4.op HAx.out
          have ybo : bo < w4.heap.size := hRo_4.lt
          go_upto_region 12 with fail
          have hS1 : ∀ w', (fun w' : World => (∀ oo, w'.cell? ⟨w.heap.size, oo, none⟩ = w4.cell? ⟨w.heap.size, oo, none⟩) ∧ w'.cell? ⟨w2.heap.size, 2, none⟩ = w4.cell? ⟨w2.heap.size, 2, none⟩ ∧ (∀ oo, w'.cell? ⟨bo, oo, none⟩ = w4.cell? ⟨bo, oo, none⟩)) w' → ∀ oo, w'.cell? ⟨w.heap.size, oo, none⟩ = w4.cell? ⟨w.heap.size, oo, none⟩ := fun w' h => h.1
          have hS2 : ∀ w', (fun w' : World => (∀ oo, w'.cell? ⟨w.heap.size, oo, none⟩ = w4.cell? ⟨w.heap.size, oo, none⟩) ∧ w'.cell? ⟨w2.heap.size, 2, none⟩ = w4.cell? ⟨w2.heap.size, 2, none⟩ ∧ (∀ oo, w'.cell? ⟨bo, oo, none⟩ = w4.cell? ⟨bo, oo, none⟩)) w' → w'.cell? ⟨w2.heap.size, 2, none⟩ = w4.cell? ⟨w2.heap.size, 2, none⟩ := fun w' h => h.2.1
          have hS3 : ∀ w', (fun w' : World => (∀ oo, w'.cell? ⟨w.heap.size, oo, none⟩ = w4.cell? ⟨w.heap.size, oo, none⟩) ∧ w'.cell? ⟨w2.heap.size, 2, none⟩ = w4.cell? ⟨w2.heap.size, 2, none⟩ ∧ (∀ oo, w'.cell? ⟨bo, oo, none⟩ = w4.cell? ⟨bo, oo, none⟩)) w' → ∀ oo, w'.cell? ⟨bo, oo, none⟩ = w4.cell? ⟨bo, oo, none⟩ := fun w' h => h.2.2
          refine wp_region_plan (fun w' : World => (∀ oo, w'.cell? ⟨w.heap.size, oo, none⟩ = w4.cell? ⟨w.heap.size, oo, none⟩) ∧ w'.cell? ⟨w2.heap.size, 2, none⟩ = w4.cell? ⟨w2.heap.size, 2, none⟩ ∧ (∀ oo, w'.cell? ⟨bo, oo, none⟩ = w4.cell? ⟨bo, oo, none⟩)) 11 (.float 0 (.float 1 (.float 2 (.float 3 (.float 4 (.float 5 (.float 6 (.float 7 (.chain 8 (.float 9 (.chain 10 (.tail 11)))))))))))) (by kernel_rfl) (by kernel_rfl) ⟨fun _ => rfl, rfl, fun _ => rfl⟩ ?_
          iterate 8 ((refine Plan.float_step (v := ?_) rfl (by rfl) (fun _ _ _ h => h) (fun w' hSw => ?_) ?_; rotate_left; · (have hS4 := hS1 w' hSw; have hS5 := hS2 w' hSw; have hS6 := hS3 w' hSw; go_simp; try with_reducible rfl)); (try simp only [Act.put, List.setIfInBounds_toArray, List.set_cons_zero, List.set_cons_succ]))
          refine Plan.chain_step rfl (fun K hK => ?_)
          go_simp
          refine hK.out _ _ ⟨fun oo => ((World.cell?_setCell_other _ _ _ _ (by intro e; injection e with e e2; omega)).trans rfl), ((World.cell?_setCell_other _ _ _ _ (by intro e; injection e with e e2; omega)).trans rfl), fun oo => ((World.cell?_setCell_other _ _ _ _ (by intro e; injection e with e e2; omega)).trans rfl)⟩ ?_
          clear hK
          (try simp only [Act.put, List.setIfInBounds_toArray, List.set_cons_zero, List.set_cons_succ])
          (refine Plan.float_step (v := ?_) rfl (by rfl) (fun _ _ _ h => h) (fun w' hSw => ?_) ?_; rotate_left; · (have hS4 := hS1 w' hSw; have hS5 := hS2 w' hSw; have hS6 := hS3 w' hSw; go_simp; try with_reducible rfl)); (try simp only [Act.put, List.setIfInBounds_toArray, List.set_cons_zero, List.set_cons_succ])
          refine Plan.chain_step rfl (fun K hK => ?_)
          go_simp
          refine hK.out _ _ ⟨fun oo => ((World.cell?_setCell_other _ _ _ _ (by intro e; injection e with e e2; omega)).trans ((World.cell?_setCell_other _ _ _ _ (by intro e; injection e with e e2; omega)).trans rfl)), ((World.cell?_setCell_other _ _ _ _ (by intro e; injection e with e e2; omega)).trans ((World.cell?_setCell_other _ _ _ _ (by intro e; injection e with e e2; omega)).trans rfl)), fun oo => ((World.cell?_setCell_other _ _ _ _ (by intro e; injection e with e e2; omega)).trans ((World.cell?_setCell_other _ _ _ _ (by intro e; injection e with e e2; omega)).trans rfl))⟩ ?_
          clear hK
          (try simp only [Act.put, List.setIfInBounds_toArray, List.set_cons_zero, List.set_cons_succ])
          refine Plan.tail_step ?_
          simp only [List.drop_succ_cons, List.drop_zero]
          clear hS1 hS2 hS3
          have hE : ∃ F, Sl w4 (Old w4) (.slice (some ⟨bo, oo1, none⟩) b.ops.length d1) (foldTo b.ops b.ops.length) ∧ OwnSl w4 (.slice (some ⟨bo, oo1, none⟩) b.ops.length d1) (foldTo b.ops b.ops.length) F ∧ Fr w w4 F ∧ ∀ q, q ∈ F → q = bo ∧ w1.heap.size ≤ bo := by
            by_cases hK0 : b.ops = []
            · rw [show foldTo b.ops b.ops.length = b.ops by rw [hK0]; rfl]
              have q := empty_sl ho1 hK0 w4
              exact ⟨[], q.1, q.2, Fr.nil _ _, fun q hq => by simp at hq⟩
            · obtain ⟨hB1, hbo4⟩ := HV.out hK0
              obtain ⟨F, g1, g2, g3⟩ := hRo_4.ownB (n := b.ops.length) (c := d1) (by simp [foldTo_length]) (by simpa [foldTo_length] using hd1) hm1 (show w.heap.size ≤ bo by omega)
              exact ⟨F, hRo_4.sl (n := b.ops.length) (c := d1) (by simp [foldTo_length]) (by simpa [foldTo_length] using hd1) hm1, g1, g2, fun q hq => ⟨g3 q hq, hbo4⟩⟩
          obtain ⟨F5, hS5, ho5, hf5, hq5⟩ := hE
          have yres : w.heap.size + 1 < w4.heap.size := by omega
          have xres0 := hBres_4 0 _ rfl
          have xres1 := hBres_4 1 _ rfl
          have xres2 := hBres_4 2 _ rfl
          have xres3 := hBres_4 3 _ rfl
          have xres4 := hBres_4 4 _ rfl
          have xres5 := hBres_4 5 _ rfl
          have xres6 := hBres_4 6 _ rfl
          have fres := hFres_4
          go_wp2
          have HR : endConst b (foldTo b.ops b.ops.length) = ⟨b.pc, b.len, (foldTo b.ops b.ops.length), 1, 0, b.y, ax.k⟩ := by have q := ec_word (⟨b.pc, b.len, foldTo b.ops b.ops.length, b.fin, b.x, b.y, b.k⟩ : IrBlock) HF.out ((kindAt_eq HAx.out).trans (fold_yes rfl HQX.out)) (HY0.out HF.out); rw [show numAt (⟨b.pc, b.len, foldTo b.ops b.ops.length, b.fin, b.x, b.y, b.k⟩ : IrBlock).ops (⟨b.pc, b.len, foldTo b.ops b.ops.length, b.fin, b.x, b.y, b.k⟩ : IrBlock).x = ax.k from numAt_eq HAx.out] at q; rw [show b.y = 0 from HY0.out HF.out]; exact q
          first
          | refine bodyPost_ret (v := .agg #[.int .i64 b.pc, .int .i64 b.len, (.slice (some ⟨bo, oo1, none⟩) b.ops.length d1), .int .i64 (1), .int .i64 (0), .int .i64 (b.y), .int .i64 (ax.k)]) (by simp [results, Try.results61, go_sem, xres0, xres1, xres2, xres3, xres4, xres5, xres6, yres]) rfl ⟨_, F5, by rw [HDB.out, HR], ?_, ?_, ?_⟩
          | refine bodyPost_ret (v := .agg #[.int .i64 b.pc, .int .i64 b.len, (.slice (some ⟨bo, oo1, none⟩) b.ops.length d1), .int .i64 (1), .int .i64 (0), .int .i64 (b.y), .int .i64 (ax.k)]) (by simp [results, Try.results61, go_sem, xres0, xres1, xres2, xres3, xres4, xres5, xres6, yres]) rfl ⟨_, by rw [HDB.out, HR], F5, ?_, ?_, ?_⟩
          · rw [HDB.out, endConst_ops]
            exact OwnSl.stay ho5 (fun b hb => by
              have q := hf5.2 b hb; have q1 := q.1; have q2 := q.2
              obtain ⟨q3, q4⟩ := hq5 b hb
              (try rw [drew_heap])
              repeat (first | rw [heap_set _ _ _ _ (by simp; omega)] | rw [drew_heap]))
          · exact hf5.mk1 (by omega) (by first | (simp; done) | (simp; omega))
          · exact (Ext.hold he4)
      · 
        have q2 : (b.fin == 2) = false := by rw [e]; rfl
        have q3 : decide (3 ≤ b.fin) = true := by rw [e]; rfl
        obtain ⟨hix0, hix1⟩ := end_x HE.out (by rw [e]; rfl)
        obtain ⟨hB1, hbo4⟩ := HV.out (by intro h; rw [h] at hix1; simp at hix1; omega)
        subst hB1
        obtain ⟨ax, hax⟩ := get_in (L := (foldTo b.ops b.ops.length)) hix0 (by rw [HLF.out]; exact hix1)
        have HAx := hide hax
        have HY0 := hide (fun q => end_y0 HE.out (.inr q))
        clear hax
        obtain ⟨hiy0, hiy1⟩ := end_y HE.out (by rw [e]; rfl)
        obtain ⟨ay, hay⟩ := get_in (L := (foldTo b.ops b.ops.length)) hiy0 (by rw [HLF.out]; exact hiy1)
        have HAy := hide hay
        clear hay
        have HF := hide e
        clear e
        have yb : w.heap.size < w4.heap.size := by omega
        have xb0 := hBb_4 0 _ rfl
        have xb1 := hBb_4 1 _ rfl
        have xb2 := hBb_4 2 _ rfl
        have xb3 := hBb_4 3 _ rfl
        have xb4 := hBb_4 4 _ rfl
        have xb5 := hBb_4 5 _ rfl
        have xb6 := hBb_4 6 _ rfl
        have yu : w2.heap.size < w4.heap.size := by omega
        have xu0 := hBu_4 0 _ rfl
        have xu1 := hBu_4 1 _ rfl
        have xu2 := hBu_4 2 _ rfl
        have xu3 := hBu_4 3 _ rfl
        have xu4 := hBu_4 4 _ rfl
        have xu5 := hBu_4 5 _ rfl
        have xu6 := hBu_4 6 _ rfl
        have fu := hFu_4
        go_wp2_with fail
        refine (constFn_any (foldTo b.ops b.ops.length) b.x ax _ _ _ _ _ _ xu2 hRo_4 HAx.out HLF.out.symm hix0).mono ?_
        rintro e w' ⟨rfl, rfl⟩
        cases hqx : (ax.kind == 1)
        · 
          have HQX := hide hqx
          clear hqx
          have hE : ∃ F, Sl w4 (Old w4) (.slice (some ⟨bo, oo1, none⟩) b.ops.length d1) (foldTo b.ops b.ops.length) ∧ OwnSl w4 (.slice (some ⟨bo, oo1, none⟩) b.ops.length d1) (foldTo b.ops b.ops.length) F ∧ Fr w w4 F ∧ ∀ q, q ∈ F → q = bo ∧ w1.heap.size ≤ bo := by
            by_cases hK0 : b.ops = []
            · rw [show foldTo b.ops b.ops.length = b.ops by rw [hK0]; rfl]
              have q := empty_sl ho1 hK0 w4
              exact ⟨[], q.1, q.2, Fr.nil _ _, fun q hq => by simp at hq⟩
            · obtain ⟨hB1, hbo4⟩ := HV.out hK0
              obtain ⟨F, g1, g2, g3⟩ := hRo_4.ownB (n := b.ops.length) (c := d1) (by simp [foldTo_length]) (by simpa [foldTo_length] using hd1) hm1 (show w.heap.size ≤ bo by omega)
              exact ⟨F, hRo_4.sl (n := b.ops.length) (c := d1) (by simp [foldTo_length]) (by simpa [foldTo_length] using hd1) hm1, g1, g2, fun q hq => ⟨g3 q hq, hbo4⟩⟩
          obtain ⟨F5, hS5, ho5, hf5, hq5⟩ := hE
          have yres : w.heap.size + 1 < w4.heap.size := by omega
          have xres0 := hBres_4 0 _ rfl
          have xres1 := hBres_4 1 _ rfl
          have xres2 := hBres_4 2 _ rfl
          have xres3 := hBres_4 3 _ rfl
          have xres4 := hBres_4 4 _ rfl
          have xres5 := hBres_4 5 _ rfl
          have xres6 := hBres_4 6 _ rfl
          have fres := hFres_4
          go_wp2
          have HR : endConst b (foldTo b.ops b.ops.length) = ⟨b.pc, b.len, (foldTo b.ops b.ops.length), b.fin, b.x, b.y, b.k⟩ := by exact ec_no (⟨b.pc, b.len, foldTo b.ops b.ops.length, b.fin, b.x, b.y, b.k⟩ : IrBlock) (fun h => fold_no rfl HQX.out ((kindAt_eq HAx.out).symm.trans h.2)) (fun h => fold_no rfl HQX.out ((kindAt_eq HAx.out).symm.trans h.2.1))
          first
          | refine bodyPost_ret (v := .agg #[.int .i64 b.pc, .int .i64 b.len, (.slice (some ⟨bo, oo1, none⟩) b.ops.length d1), .int .i64 (b.fin), .int .i64 (b.x), .int .i64 (b.y), .int .i64 (b.k)]) (by simp [results, Try.results61, go_sem, xres0, xres1, xres2, xres3, xres4, xres5, xres6, yres]) rfl ⟨_, F5, by rw [HDB.out, HR], ?_, ?_, ?_⟩
          | refine bodyPost_ret (v := .agg #[.int .i64 b.pc, .int .i64 b.len, (.slice (some ⟨bo, oo1, none⟩) b.ops.length d1), .int .i64 (b.fin), .int .i64 (b.x), .int .i64 (b.y), .int .i64 (b.k)]) (by simp [results, Try.results61, go_sem, xres0, xres1, xres2, xres3, xres4, xres5, xres6, yres]) rfl ⟨_, by rw [HDB.out, HR], F5, ?_, ?_, ?_⟩
          · rw [HDB.out, endConst_ops]
            exact OwnSl.stay ho5 (fun b hb => by
              have q := hf5.2 b hb; have q1 := q.1; have q2 := q.2
              obtain ⟨q3, q4⟩ := hq5 b hb
              (try rw [drew_heap])
              repeat (first | rw [heap_set _ _ _ _ (by simp; omega)] | rw [drew_heap]))
          · exact hf5.mk1 (by omega) (by first | (simp; done) | (simp; omega))
          · exact (Ext.hold he4)
        · 
          go_wp2_with fail
          refine (constFn_any (foldTo b.ops b.ops.length) b.y ay _ _ _ _ _ _ xu2 hRo_4 HAy.out HLF.out.symm hiy0).mono ?_
          rintro e w' ⟨rfl, rfl⟩
          have HQX := hide hqx
          clear hqx
          cases hqy : (ay.kind == 1)
          · 
            have HQY := hide hqy
            clear hqy
            have hE : ∃ F, Sl w4 (Old w4) (.slice (some ⟨bo, oo1, none⟩) b.ops.length d1) (foldTo b.ops b.ops.length) ∧ OwnSl w4 (.slice (some ⟨bo, oo1, none⟩) b.ops.length d1) (foldTo b.ops b.ops.length) F ∧ Fr w w4 F ∧ ∀ q, q ∈ F → q = bo ∧ w1.heap.size ≤ bo := by
              by_cases hK0 : b.ops = []
              · rw [show foldTo b.ops b.ops.length = b.ops by rw [hK0]; rfl]
                have q := empty_sl ho1 hK0 w4
                exact ⟨[], q.1, q.2, Fr.nil _ _, fun q hq => by simp at hq⟩
              · obtain ⟨hB1, hbo4⟩ := HV.out hK0
                obtain ⟨F, g1, g2, g3⟩ := hRo_4.ownB (n := b.ops.length) (c := d1) (by simp [foldTo_length]) (by simpa [foldTo_length] using hd1) hm1 (show w.heap.size ≤ bo by omega)
                exact ⟨F, hRo_4.sl (n := b.ops.length) (c := d1) (by simp [foldTo_length]) (by simpa [foldTo_length] using hd1) hm1, g1, g2, fun q hq => ⟨g3 q hq, hbo4⟩⟩
            obtain ⟨F5, hS5, ho5, hf5, hq5⟩ := hE
            have yres : w.heap.size + 1 < w4.heap.size := by omega
            have xres0 := hBres_4 0 _ rfl
            have xres1 := hBres_4 1 _ rfl
            have xres2 := hBres_4 2 _ rfl
            have xres3 := hBres_4 3 _ rfl
            have xres4 := hBres_4 4 _ rfl
            have xres5 := hBres_4 5 _ rfl
            have xres6 := hBres_4 6 _ rfl
            have fres := hFres_4
            go_wp2
            have HR : endConst b (foldTo b.ops b.ops.length) = ⟨b.pc, b.len, (foldTo b.ops b.ops.length), b.fin, b.x, b.y, b.k⟩ := by exact ec_no (⟨b.pc, b.len, foldTo b.ops b.ops.length, b.fin, b.x, b.y, b.k⟩ : IrBlock) (fun h => by have q := h.1.symm.trans HF.out; simp at q) (fun h => fold_no rfl HQY.out ((kindAt_eq HAy.out).symm.trans h.2.2))
            first
            | refine bodyPost_ret (v := .agg #[.int .i64 b.pc, .int .i64 b.len, (.slice (some ⟨bo, oo1, none⟩) b.ops.length d1), .int .i64 (b.fin), .int .i64 (b.x), .int .i64 (b.y), .int .i64 (b.k)]) (by simp [results, Try.results61, go_sem, xres0, xres1, xres2, xres3, xres4, xres5, xres6, yres]) rfl ⟨_, F5, by rw [HDB.out, HR], ?_, ?_, ?_⟩
            | refine bodyPost_ret (v := .agg #[.int .i64 b.pc, .int .i64 b.len, (.slice (some ⟨bo, oo1, none⟩) b.ops.length d1), .int .i64 (b.fin), .int .i64 (b.x), .int .i64 (b.y), .int .i64 (b.k)]) (by simp [results, Try.results61, go_sem, xres0, xres1, xres2, xres3, xres4, xres5, xres6, yres]) rfl ⟨_, by rw [HDB.out, HR], F5, ?_, ?_, ?_⟩
            · rw [HDB.out, endConst_ops]
              exact OwnSl.stay ho5 (fun b hb => by
                have q := hf5.2 b hb; have q1 := q.1; have q2 := q.2
                obtain ⟨q3, q4⟩ := hq5 b hb
                (try rw [drew_heap])
                repeat (first | rw [heap_set _ _ _ _ (by simp; omega)] | rw [drew_heap]))
            · exact hf5.mk1 (by omega) (by first | (simp; done) | (simp; omega))
            · exact (Ext.hold he4)
          · 
            have HQY := hide hqy
            clear hqy
            have hkx : kindAt (foldTo b.ops b.ops.length) b.x = 1 := by rw [kindAt_eq HAx.out]; exact fold_yes rfl HQX.out
            have hky : kindAt (foldTo b.ops b.ops.length) b.y = 1 := by rw [kindAt_eq HAy.out]; exact fold_yes rfl HQY.out
            have HWX := hide (num_word HOK.out _ hkx)
            have HWY := hide (num_word HOK.out _ hky)
            have HN := hide (ec_two (⟨b.pc, b.len, foldTo b.ops b.ops.length, b.fin, b.x, b.y, b.k⟩ : IrBlock) (by rw [show (⟨b.pc, b.len, foldTo b.ops b.ops.length, b.fin, b.x, b.y, b.k⟩ : IrBlock).fin = 3 from HF.out]; decide) hkx hky)
            rw [numAt_eq HAx.out] at HWX
            rw [numAt_eq HAy.out] at HWY
            clear hkx hky
            go_upto_region 15 with fail
            clear xu0 xu1 xu2 xu3 xu4 xu5 xu6 yu fu xb0 xb1 xb2 xb3 xb4 xb5 xb6 yb
            have he5 : Ext w (((w4.setCell ⟨w2.heap.size, 3, none⟩ (.int .i64 1)).setCell ⟨w2.heap.size, 4, none⟩ (.int .i64 0)).setCell ⟨w2.heap.size, 5, none⟩ (.int .i64 0)) := (Ext.hold he4)
            have hs5 : w4.heap.size + 0 ≤ ((((w4.setCell ⟨w2.heap.size, 3, none⟩ (.int .i64 1)).setCell ⟨w2.heap.size, 4, none⟩ (.int .i64 0)).setCell ⟨w2.heap.size, 5, none⟩ (.int .i64 0))).heap.size := by simp
            have hq5 := hide (show ((((w4.setCell ⟨w2.heap.size, 3, none⟩ (.int .i64 1)).setCell ⟨w2.heap.size, 4, none⟩ (.int .i64 0)).setCell ⟨w2.heap.size, 5, none⟩ (.int .i64 0))).heap.size = w4.heap.size + 0 by simp)
            have hBb_5 : Bx ((((w4.setCell ⟨w2.heap.size, 3, none⟩ (.int .i64 1)).setCell ⟨w2.heap.size, 4, none⟩ (.int .i64 0)).setCell ⟨w2.heap.size, 5, none⟩ (.int .i64 0))) (w.heap.size) [.int .i64 b.pc, .int .i64 b.len, (.slice Ab1 b.ops.length cb1), .int .i64 b.fin, .int .i64 b.x, .int .i64 b.y, .int .i64 b.k] := Bx.hold hBb_4
            have hFb_5 : ∀ oo, ((((w4.setCell ⟨w2.heap.size, 3, none⟩ (.int .i64 1)).setCell ⟨w2.heap.size, 4, none⟩ (.int .i64 0)).setCell ⟨w2.heap.size, 5, none⟩ (.int .i64 0))).frozen? ⟨w.heap.size, oo, none⟩ = false := (fz_hold hFb_4)
            have hBres_5 : Bx ((((w4.setCell ⟨w2.heap.size, 3, none⟩ (.int .i64 1)).setCell ⟨w2.heap.size, 4, none⟩ (.int .i64 0)).setCell ⟨w2.heap.size, 5, none⟩ (.int .i64 0))) (w.heap.size + 1) [.int .i64 0, .int .i64 0, .slice none 0 0, .int .i64 0, .int .i64 0, .int .i64 0, .int .i64 0] := Bx.hold hBres_4
            have hFres_5 : ∀ oo, ((((w4.setCell ⟨w2.heap.size, 3, none⟩ (.int .i64 1)).setCell ⟨w2.heap.size, 4, none⟩ (.int .i64 0)).setCell ⟨w2.heap.size, 5, none⟩ (.int .i64 0))).frozen? ⟨w.heap.size + 1, oo, none⟩ = false := (fz_hold hFres_4)
            have hBu_5 : Bx ((((w4.setCell ⟨w2.heap.size, 3, none⟩ (.int .i64 1)).setCell ⟨w2.heap.size, 4, none⟩ (.int .i64 0)).setCell ⟨w2.heap.size, 5, none⟩ (.int .i64 0))) (w2.heap.size) [.int .i64 b.pc, .int .i64 b.len, (.slice (some ⟨bo, oo1, none⟩) b.ops.length d1), .int .i64 1, .int .i64 0, .int .i64 0, .int .i64 b.k] := (by have := Bx.put (Bx.put (Bx.put hBu_4 (j := 3) (by simp) (.int .i64 1)) (j := 4) (by simp) (.int .i64 0)) (j := 5) (by simp) (.int .i64 0); simpa using this)
            have hFu_5 : ∀ oo, ((((w4.setCell ⟨w2.heap.size, 3, none⟩ (.int .i64 1)).setCell ⟨w2.heap.size, 4, none⟩ (.int .i64 0)).setCell ⟨w2.heap.size, 5, none⟩ (.int .i64 0))).frozen? ⟨w2.heap.size, oo, none⟩ = false := (fz_hold hFu_4)
            have hRo_5 : FRow ((((w4.setCell ⟨w2.heap.size, 3, none⟩ (.int .i64 1)).setCell ⟨w2.heap.size, 4, none⟩ (.int .i64 0)).setCell ⟨w2.heap.size, 5, none⟩ (.int .i64 0))) (bo) oo1 (foldTo b.ops b.ops.length) := FRow.hold hRo_4
            generalize (((w4.setCell ⟨w2.heap.size, 3, none⟩ (.int .i64 1)).setCell ⟨w2.heap.size, 4, none⟩ (.int .i64 0)).setCell ⟨w2.heap.size, 5, none⟩ (.int .i64 0)) = w5 at *
            clear hBb_4 hFb_4 hBres_4 hFres_4 hBu_4 hFu_4 hRo_4
            obtain ⟨hkx9, f0, f1, f2, f3, f4⟩ := hRo_5.op HAx.out
            obtain ⟨hky9, g0, g1, g2, g3, g4⟩ := hRo_5.op HAy.out
            have ybo : bo < w5.heap.size := hRo_5.lt
            have hfb : -10 ≤ b.fin ∧ b.fin ≤ 10 := by have := HF.out; omega
            have hfb0 := hfb.1
            have hfb1 := hfb.2
            clear hfb
            have yb : w.heap.size < w5.heap.size := by omega
            have xb0 := hBb_5 0 _ rfl
            have xb1 := hBb_5 1 _ rfl
            have xb2 := hBb_5 2 _ rfl
            have xb3 := hBb_5 3 _ rfl
            have xb4 := hBb_5 4 _ rfl
            have xb5 := hBb_5 5 _ rfl
            have xb6 := hBb_5 6 _ rfl
            have yu : w2.heap.size < w5.heap.size := by omega
            have xu0 := hBu_5 0 _ rfl
            have xu1 := hBu_5 1 _ rfl
            have xu2 := hBu_5 2 _ rfl
            have xu3 := hBu_5 3 _ rfl
            have xu4 := hBu_5 4 _ rfl
            have xu5 := hBu_5 5 _ rfl
            have xu6 := hBu_5 6 _ rfl
            go_upto_region 15 with fail
            have hS : ∀ w', Ext w5 w' → ∀ bb oo, bb < w5.heap.size → w'.cell? ⟨bb, oo, none⟩ = w5.cell? ⟨bb, oo, none⟩ := fun w' hx bb oo hb => hx.cell hb
            refine wp_region_plan (fun w' => Ext w5 w') 18 (.float 0 (.float 1 (.float 2 (.float 3 (.float 4 (.float 5 (.float 6 (.float 7 (.float 8 (.float 9 (.float 10 (.float 11 (.float 12 (.float 13 (.float 14 (.float 15 (.float 16 (.float 17 (.tail 18))))))))))))))))))) (by kernel_rfl) (by kernel_rfl) (Ext.refl _).drew ?_
            iterate 18 ((refine Plan.float_step (v := ?_) rfl (by rfl) (fun _ _ _ h => h) (fun w' hSw => ?_) ?_; rotate_left; · (go_simp; try with_reducible rfl)); (try simp only [Act.put, List.setIfInBounds_toArray, List.set_cons_zero, List.set_cons_succ]))
            refine Plan.tail_step ?_
            simp only [List.drop_succ_cons, List.drop_zero]
            clear hS
            go_wp2_with fail
            refine (rel_ext _ ax.k ay.k _ (by have := HF.out; omega) HWX.out HWY.out).mono ?_
            rintro e w6 ⟨rfl, hy⟩
            clear xb0 xb1 xb2 xb3 xb4 xb5 xb6 yb
            clear xu0 xu1 xu2 xu3 xu4 xu5 xu6 yu
            have hx6 : Ext w5 w6 := Ext.trans (Ext.auto) hy
            have hs6 := hx6.size
            have he6 : Ext w w6 := he5.trans hx6
            have hBb_6 : Bx w6 (w.heap.size) [.int .i64 b.pc, .int .i64 b.len, (.slice Ab1 b.ops.length cb1), .int .i64 b.fin, .int .i64 b.x, .int .i64 b.y, .int .i64 b.k] := hx6.bx hBb_5 (by omega)
            have hFb_6 : ∀ oo, w6.frozen? ⟨w.heap.size, oo, none⟩ = false := fun oo => (hx6.frozen (by omega)).trans (hFb_5 oo)
            have hBres_6 : Bx w6 (w.heap.size + 1) [.int .i64 0, .int .i64 0, .slice none 0 0, .int .i64 0, .int .i64 0, .int .i64 0, .int .i64 0] := hx6.bx hBres_5 (by omega)
            have hFres_6 : ∀ oo, w6.frozen? ⟨w.heap.size + 1, oo, none⟩ = false := fun oo => (hx6.frozen (by omega)).trans (hFres_5 oo)
            have hBu_6 : Bx w6 (w2.heap.size) [.int .i64 b.pc, .int .i64 b.len, (.slice (some ⟨bo, oo1, none⟩) b.ops.length d1), .int .i64 1, .int .i64 0, .int .i64 0, .int .i64 b.k] := hx6.bx hBu_5 (by omega)
            have hFu_6 : ∀ oo, w6.frozen? ⟨w2.heap.size, oo, none⟩ = false := fun oo => (hx6.frozen (by omega)).trans (hFu_5 oo)
            clear hBb_5 hFb_5 hBres_5 hFres_5 hBu_5 hFu_5
            have hRo_6 : FRow w6 (bo) oo1 (foldTo b.ops b.ops.length) := hRo_5.ext hx6
            clear hRo_5
            clear hy
            clear f0 f1 f2 f3 f4 g0 g1 g2 g3 g4 ybo
            by_cases hr : ax.k = ay.k
            · 
              have hrd : decide (ax.k = ay.k) = true := by simp [hr]
              have HR0 := hide hr
              clear hr
              have yb : w.heap.size < w6.heap.size := by omega
              have xb0 := hBb_6 0 _ rfl
              have xb1 := hBb_6 1 _ rfl
              have xb2 := hBb_6 2 _ rfl
              have xb3 := hBb_6 3 _ rfl
              have xb4 := hBb_6 4 _ rfl
              have xb5 := hBb_6 5 _ rfl
              have xb6 := hBb_6 6 _ rfl
              have yu : w2.heap.size < w6.heap.size := by omega
              have xu0 := hBu_6 0 _ rfl
              have xu1 := hBu_6 1 _ rfl
              have xu2 := hBu_6 2 _ rfl
              have xu3 := hBu_6 3 _ rfl
              have xu4 := hBu_6 4 _ rfl
              have xu5 := hBu_6 5 _ rfl
              have xu6 := hBu_6 6 _ rfl
              have fu := hFu_6
              have hE : ∃ F, Sl w6 (Old w6) (.slice (some ⟨bo, oo1, none⟩) b.ops.length d1) (foldTo b.ops b.ops.length) ∧ OwnSl w6 (.slice (some ⟨bo, oo1, none⟩) b.ops.length d1) (foldTo b.ops b.ops.length) F ∧ Fr w w6 F ∧ ∀ q, q ∈ F → q = bo ∧ w1.heap.size ≤ bo := by
                by_cases hK0 : b.ops = []
                · rw [show foldTo b.ops b.ops.length = b.ops by rw [hK0]; rfl]
                  have q := empty_sl ho1 hK0 w6
                  exact ⟨[], q.1, q.2, Fr.nil _ _, fun q hq => by simp at hq⟩
                · obtain ⟨hB1, hbo4⟩ := HV.out hK0
                  obtain ⟨F, g1, g2, g3⟩ := hRo_6.ownB (n := b.ops.length) (c := d1) (by simp [foldTo_length]) (by simpa [foldTo_length] using hd1) hm1 (show w.heap.size ≤ bo by omega)
                  exact ⟨F, hRo_6.sl (n := b.ops.length) (c := d1) (by simp [foldTo_length]) (by simpa [foldTo_length] using hd1) hm1, g1, g2, fun q hq => ⟨g3 q hq, hbo4⟩⟩
              obtain ⟨F5, hS5, ho5, hf5, hq5⟩ := hE
              have yres : w.heap.size + 1 < w6.heap.size := by omega
              have xres0 := hBres_6 0 _ rfl
              have xres1 := hBres_6 1 _ rfl
              have xres2 := hBres_6 2 _ rfl
              have xres3 := hBres_6 3 _ rfl
              have xres4 := hBres_6 4 _ rfl
              have xres5 := hBres_6 5 _ rfl
              have xres6 := hBres_6 6 _ rfl
              have fres := hFres_6
              go_wp2
              have HR : endConst b (foldTo b.ops b.ops.length) = ⟨b.pc, b.len, (foldTo b.ops b.ops.length), 1, 0, 0, b.k⟩ := by have q := HN.out; rw [if_pos (by rw [numAt_eq HAx.out, numAt_eq HAy.out, show b.fin = 3 from HF.out]; simp [HR0.out])] at q; exact q
              first
              | refine bodyPost_ret (v := .agg #[.int .i64 b.pc, .int .i64 b.len, (.slice (some ⟨bo, oo1, none⟩) b.ops.length d1), .int .i64 (1), .int .i64 (0), .int .i64 (0), .int .i64 (b.k)]) (by simp [results, Try.results61, go_sem, xres0, xres1, xres2, xres3, xres4, xres5, xres6, yres]) rfl ⟨_, F5, by rw [HDB.out, HR], ?_, ?_, ?_⟩
              | refine bodyPost_ret (v := .agg #[.int .i64 b.pc, .int .i64 b.len, (.slice (some ⟨bo, oo1, none⟩) b.ops.length d1), .int .i64 (1), .int .i64 (0), .int .i64 (0), .int .i64 (b.k)]) (by simp [results, Try.results61, go_sem, xres0, xres1, xres2, xres3, xres4, xres5, xres6, yres]) rfl ⟨_, by rw [HDB.out, HR], F5, ?_, ?_, ?_⟩
              · rw [HDB.out, endConst_ops]
                exact OwnSl.stay ho5 (fun b hb => by
                  have q := hf5.2 b hb; have q1 := q.1; have q2 := q.2
                  obtain ⟨q3, q4⟩ := hq5 b hb
                  (try rw [drew_heap])
                  repeat (first | rw [heap_set _ _ _ _ (by simp; omega)] | rw [drew_heap]))
              · exact hf5.mk1 (by omega) (by first | (simp; done) | (simp; omega))
              · exact (Ext.hold he6)
            · 
              have hrd : decide (ax.k = ay.k) = false := by simp [hr]
              have HR0 := hide hr
              clear hr
              have yb : w.heap.size < w6.heap.size := by omega
              have xb0 := hBb_6 0 _ rfl
              have xb1 := hBb_6 1 _ rfl
              have xb2 := hBb_6 2 _ rfl
              have xb3 := hBb_6 3 _ rfl
              have xb4 := hBb_6 4 _ rfl
              have xb5 := hBb_6 5 _ rfl
              have xb6 := hBb_6 6 _ rfl
              have yu : w2.heap.size < w6.heap.size := by omega
              have xu0 := hBu_6 0 _ rfl
              have xu1 := hBu_6 1 _ rfl
              have xu2 := hBu_6 2 _ rfl
              have xu3 := hBu_6 3 _ rfl
              have xu4 := hBu_6 4 _ rfl
              have xu5 := hBu_6 5 _ rfl
              have xu6 := hBu_6 6 _ rfl
              have fu := hFu_6
              have hE : ∃ F, Sl w6 (Old w6) (.slice (some ⟨bo, oo1, none⟩) b.ops.length d1) (foldTo b.ops b.ops.length) ∧ OwnSl w6 (.slice (some ⟨bo, oo1, none⟩) b.ops.length d1) (foldTo b.ops b.ops.length) F ∧ Fr w w6 F ∧ ∀ q, q ∈ F → q = bo ∧ w1.heap.size ≤ bo := by
                by_cases hK0 : b.ops = []
                · rw [show foldTo b.ops b.ops.length = b.ops by rw [hK0]; rfl]
                  have q := empty_sl ho1 hK0 w6
                  exact ⟨[], q.1, q.2, Fr.nil _ _, fun q hq => by simp at hq⟩
                · obtain ⟨hB1, hbo4⟩ := HV.out hK0
                  obtain ⟨F, g1, g2, g3⟩ := hRo_6.ownB (n := b.ops.length) (c := d1) (by simp [foldTo_length]) (by simpa [foldTo_length] using hd1) hm1 (show w.heap.size ≤ bo by omega)
                  exact ⟨F, hRo_6.sl (n := b.ops.length) (c := d1) (by simp [foldTo_length]) (by simpa [foldTo_length] using hd1) hm1, g1, g2, fun q hq => ⟨g3 q hq, hbo4⟩⟩
              obtain ⟨F5, hS5, ho5, hf5, hq5⟩ := hE
              have yres : w.heap.size + 1 < w6.heap.size := by omega
              have xres0 := hBres_6 0 _ rfl
              have xres1 := hBres_6 1 _ rfl
              have xres2 := hBres_6 2 _ rfl
              have xres3 := hBres_6 3 _ rfl
              have xres4 := hBres_6 4 _ rfl
              have xres5 := hBres_6 5 _ rfl
              have xres6 := hBres_6 6 _ rfl
              have fres := hFres_6
              go_wp2
              have HR : endConst b (foldTo b.ops b.ops.length) = ⟨b.pc, b.len, (foldTo b.ops b.ops.length), 1, 0, 0, b.pc + b.len⟩ := by have q := HN.out; rw [if_neg (by rw [numAt_eq HAx.out, numAt_eq HAy.out, show b.fin = 3 from HF.out]; simp [HR0.out])] at q; exact q
              first
              | refine bodyPost_ret (v := .agg #[.int .i64 b.pc, .int .i64 b.len, (.slice (some ⟨bo, oo1, none⟩) b.ops.length d1), .int .i64 (1), .int .i64 (0), .int .i64 (0), .int .i64 (b.pc + b.len)]) (by simp [results, Try.results61, go_sem, xres0, xres1, xres2, xres3, xres4, xres5, xres6, yres]) rfl ⟨_, F5, by rw [HDB.out, HR], ?_, ?_, ?_⟩
              | refine bodyPost_ret (v := .agg #[.int .i64 b.pc, .int .i64 b.len, (.slice (some ⟨bo, oo1, none⟩) b.ops.length d1), .int .i64 (1), .int .i64 (0), .int .i64 (0), .int .i64 (b.pc + b.len)]) (by simp [results, Try.results61, go_sem, xres0, xres1, xres2, xres3, xres4, xres5, xres6, yres]) rfl ⟨_, by rw [HDB.out, HR], F5, ?_, ?_, ?_⟩
              · rw [HDB.out, endConst_ops]
                exact OwnSl.stay ho5 (fun b hb => by
                  have q := hf5.2 b hb; have q1 := q.1; have q2 := q.2
                  obtain ⟨q3, q4⟩ := hq5 b hb
                  (try rw [drew_heap])
                  repeat (first | rw [heap_set _ _ _ _ (by simp; omega)] | rw [drew_heap]))
              · exact hf5.mk1 (by omega) (by first | (simp; done) | (simp; omega))
              · exact (Ext.hold he6)
      · 
        have q2 : (b.fin == 2) = false := by rw [e]; rfl
        have q3 : decide (3 ≤ b.fin) = true := by rw [e]; rfl
        obtain ⟨hix0, hix1⟩ := end_x HE.out (by rw [e]; rfl)
        obtain ⟨hB1, hbo4⟩ := HV.out (by intro h; rw [h] at hix1; simp at hix1; omega)
        subst hB1
        obtain ⟨ax, hax⟩ := get_in (L := (foldTo b.ops b.ops.length)) hix0 (by rw [HLF.out]; exact hix1)
        have HAx := hide hax
        have HY0 := hide (fun q => end_y0 HE.out (.inr q))
        clear hax
        obtain ⟨hiy0, hiy1⟩ := end_y HE.out (by rw [e]; rfl)
        obtain ⟨ay, hay⟩ := get_in (L := (foldTo b.ops b.ops.length)) hiy0 (by rw [HLF.out]; exact hiy1)
        have HAy := hide hay
        clear hay
        have HF := hide e
        clear e
        have yb : w.heap.size < w4.heap.size := by omega
        have xb0 := hBb_4 0 _ rfl
        have xb1 := hBb_4 1 _ rfl
        have xb2 := hBb_4 2 _ rfl
        have xb3 := hBb_4 3 _ rfl
        have xb4 := hBb_4 4 _ rfl
        have xb5 := hBb_4 5 _ rfl
        have xb6 := hBb_4 6 _ rfl
        have yu : w2.heap.size < w4.heap.size := by omega
        have xu0 := hBu_4 0 _ rfl
        have xu1 := hBu_4 1 _ rfl
        have xu2 := hBu_4 2 _ rfl
        have xu3 := hBu_4 3 _ rfl
        have xu4 := hBu_4 4 _ rfl
        have xu5 := hBu_4 5 _ rfl
        have xu6 := hBu_4 6 _ rfl
        have fu := hFu_4
        go_wp2_with fail
        refine (constFn_any (foldTo b.ops b.ops.length) b.x ax _ _ _ _ _ _ xu2 hRo_4 HAx.out HLF.out.symm hix0).mono ?_
        rintro e w' ⟨rfl, rfl⟩
        cases hqx : (ax.kind == 1)
        · 
          have HQX := hide hqx
          clear hqx
          have hE : ∃ F, Sl w4 (Old w4) (.slice (some ⟨bo, oo1, none⟩) b.ops.length d1) (foldTo b.ops b.ops.length) ∧ OwnSl w4 (.slice (some ⟨bo, oo1, none⟩) b.ops.length d1) (foldTo b.ops b.ops.length) F ∧ Fr w w4 F ∧ ∀ q, q ∈ F → q = bo ∧ w1.heap.size ≤ bo := by
            by_cases hK0 : b.ops = []
            · rw [show foldTo b.ops b.ops.length = b.ops by rw [hK0]; rfl]
              have q := empty_sl ho1 hK0 w4
              exact ⟨[], q.1, q.2, Fr.nil _ _, fun q hq => by simp at hq⟩
            · obtain ⟨hB1, hbo4⟩ := HV.out hK0
              obtain ⟨F, g1, g2, g3⟩ := hRo_4.ownB (n := b.ops.length) (c := d1) (by simp [foldTo_length]) (by simpa [foldTo_length] using hd1) hm1 (show w.heap.size ≤ bo by omega)
              exact ⟨F, hRo_4.sl (n := b.ops.length) (c := d1) (by simp [foldTo_length]) (by simpa [foldTo_length] using hd1) hm1, g1, g2, fun q hq => ⟨g3 q hq, hbo4⟩⟩
          obtain ⟨F5, hS5, ho5, hf5, hq5⟩ := hE
          have yres : w.heap.size + 1 < w4.heap.size := by omega
          have xres0 := hBres_4 0 _ rfl
          have xres1 := hBres_4 1 _ rfl
          have xres2 := hBres_4 2 _ rfl
          have xres3 := hBres_4 3 _ rfl
          have xres4 := hBres_4 4 _ rfl
          have xres5 := hBres_4 5 _ rfl
          have xres6 := hBres_4 6 _ rfl
          have fres := hFres_4
          go_wp2
          have HR : endConst b (foldTo b.ops b.ops.length) = ⟨b.pc, b.len, (foldTo b.ops b.ops.length), b.fin, b.x, b.y, b.k⟩ := by exact ec_no (⟨b.pc, b.len, foldTo b.ops b.ops.length, b.fin, b.x, b.y, b.k⟩ : IrBlock) (fun h => fold_no rfl HQX.out ((kindAt_eq HAx.out).symm.trans h.2)) (fun h => fold_no rfl HQX.out ((kindAt_eq HAx.out).symm.trans h.2.1))
          first
          | refine bodyPost_ret (v := .agg #[.int .i64 b.pc, .int .i64 b.len, (.slice (some ⟨bo, oo1, none⟩) b.ops.length d1), .int .i64 (b.fin), .int .i64 (b.x), .int .i64 (b.y), .int .i64 (b.k)]) (by simp [results, Try.results61, go_sem, xres0, xres1, xres2, xres3, xres4, xres5, xres6, yres]) rfl ⟨_, F5, by rw [HDB.out, HR], ?_, ?_, ?_⟩
          | refine bodyPost_ret (v := .agg #[.int .i64 b.pc, .int .i64 b.len, (.slice (some ⟨bo, oo1, none⟩) b.ops.length d1), .int .i64 (b.fin), .int .i64 (b.x), .int .i64 (b.y), .int .i64 (b.k)]) (by simp [results, Try.results61, go_sem, xres0, xres1, xres2, xres3, xres4, xres5, xres6, yres]) rfl ⟨_, by rw [HDB.out, HR], F5, ?_, ?_, ?_⟩
          · rw [HDB.out, endConst_ops]
            exact OwnSl.stay ho5 (fun b hb => by
              have q := hf5.2 b hb; have q1 := q.1; have q2 := q.2
              obtain ⟨q3, q4⟩ := hq5 b hb
              (try rw [drew_heap])
              repeat (first | rw [heap_set _ _ _ _ (by simp; omega)] | rw [drew_heap]))
          · exact hf5.mk1 (by omega) (by first | (simp; done) | (simp; omega))
          · exact (Ext.hold he4)
        · 
          go_wp2_with fail
          refine (constFn_any (foldTo b.ops b.ops.length) b.y ay _ _ _ _ _ _ xu2 hRo_4 HAy.out HLF.out.symm hiy0).mono ?_
          rintro e w' ⟨rfl, rfl⟩
          have HQX := hide hqx
          clear hqx
          cases hqy : (ay.kind == 1)
          · 
            have HQY := hide hqy
            clear hqy
            have hE : ∃ F, Sl w4 (Old w4) (.slice (some ⟨bo, oo1, none⟩) b.ops.length d1) (foldTo b.ops b.ops.length) ∧ OwnSl w4 (.slice (some ⟨bo, oo1, none⟩) b.ops.length d1) (foldTo b.ops b.ops.length) F ∧ Fr w w4 F ∧ ∀ q, q ∈ F → q = bo ∧ w1.heap.size ≤ bo := by
              by_cases hK0 : b.ops = []
              · rw [show foldTo b.ops b.ops.length = b.ops by rw [hK0]; rfl]
                have q := empty_sl ho1 hK0 w4
                exact ⟨[], q.1, q.2, Fr.nil _ _, fun q hq => by simp at hq⟩
              · obtain ⟨hB1, hbo4⟩ := HV.out hK0
                obtain ⟨F, g1, g2, g3⟩ := hRo_4.ownB (n := b.ops.length) (c := d1) (by simp [foldTo_length]) (by simpa [foldTo_length] using hd1) hm1 (show w.heap.size ≤ bo by omega)
                exact ⟨F, hRo_4.sl (n := b.ops.length) (c := d1) (by simp [foldTo_length]) (by simpa [foldTo_length] using hd1) hm1, g1, g2, fun q hq => ⟨g3 q hq, hbo4⟩⟩
            obtain ⟨F5, hS5, ho5, hf5, hq5⟩ := hE
            have yres : w.heap.size + 1 < w4.heap.size := by omega
            have xres0 := hBres_4 0 _ rfl
            have xres1 := hBres_4 1 _ rfl
            have xres2 := hBres_4 2 _ rfl
            have xres3 := hBres_4 3 _ rfl
            have xres4 := hBres_4 4 _ rfl
            have xres5 := hBres_4 5 _ rfl
            have xres6 := hBres_4 6 _ rfl
            have fres := hFres_4
            go_wp2
            have HR : endConst b (foldTo b.ops b.ops.length) = ⟨b.pc, b.len, (foldTo b.ops b.ops.length), b.fin, b.x, b.y, b.k⟩ := by exact ec_no (⟨b.pc, b.len, foldTo b.ops b.ops.length, b.fin, b.x, b.y, b.k⟩ : IrBlock) (fun h => by have q := h.1.symm.trans HF.out; simp at q) (fun h => fold_no rfl HQY.out ((kindAt_eq HAy.out).symm.trans h.2.2))
            first
            | refine bodyPost_ret (v := .agg #[.int .i64 b.pc, .int .i64 b.len, (.slice (some ⟨bo, oo1, none⟩) b.ops.length d1), .int .i64 (b.fin), .int .i64 (b.x), .int .i64 (b.y), .int .i64 (b.k)]) (by simp [results, Try.results61, go_sem, xres0, xres1, xres2, xres3, xres4, xres5, xres6, yres]) rfl ⟨_, F5, by rw [HDB.out, HR], ?_, ?_, ?_⟩
            | refine bodyPost_ret (v := .agg #[.int .i64 b.pc, .int .i64 b.len, (.slice (some ⟨bo, oo1, none⟩) b.ops.length d1), .int .i64 (b.fin), .int .i64 (b.x), .int .i64 (b.y), .int .i64 (b.k)]) (by simp [results, Try.results61, go_sem, xres0, xres1, xres2, xres3, xres4, xres5, xres6, yres]) rfl ⟨_, by rw [HDB.out, HR], F5, ?_, ?_, ?_⟩
            · rw [HDB.out, endConst_ops]
              exact OwnSl.stay ho5 (fun b hb => by
                have q := hf5.2 b hb; have q1 := q.1; have q2 := q.2
                obtain ⟨q3, q4⟩ := hq5 b hb
                (try rw [drew_heap])
                repeat (first | rw [heap_set _ _ _ _ (by simp; omega)] | rw [drew_heap]))
            · exact hf5.mk1 (by omega) (by first | (simp; done) | (simp; omega))
            · exact (Ext.hold he4)
          · 
            have HQY := hide hqy
            clear hqy
            have hkx : kindAt (foldTo b.ops b.ops.length) b.x = 1 := by rw [kindAt_eq HAx.out]; exact fold_yes rfl HQX.out
            have hky : kindAt (foldTo b.ops b.ops.length) b.y = 1 := by rw [kindAt_eq HAy.out]; exact fold_yes rfl HQY.out
            have HWX := hide (num_word HOK.out _ hkx)
            have HWY := hide (num_word HOK.out _ hky)
            have HN := hide (ec_two (⟨b.pc, b.len, foldTo b.ops b.ops.length, b.fin, b.x, b.y, b.k⟩ : IrBlock) (by rw [show (⟨b.pc, b.len, foldTo b.ops b.ops.length, b.fin, b.x, b.y, b.k⟩ : IrBlock).fin = 4 from HF.out]; decide) hkx hky)
            rw [numAt_eq HAx.out] at HWX
            rw [numAt_eq HAy.out] at HWY
            clear hkx hky
            go_upto_region 15 with fail
            clear xu0 xu1 xu2 xu3 xu4 xu5 xu6 yu fu xb0 xb1 xb2 xb3 xb4 xb5 xb6 yb
            have he5 : Ext w (((w4.setCell ⟨w2.heap.size, 3, none⟩ (.int .i64 1)).setCell ⟨w2.heap.size, 4, none⟩ (.int .i64 0)).setCell ⟨w2.heap.size, 5, none⟩ (.int .i64 0)) := (Ext.hold he4)
            have hs5 : w4.heap.size + 0 ≤ ((((w4.setCell ⟨w2.heap.size, 3, none⟩ (.int .i64 1)).setCell ⟨w2.heap.size, 4, none⟩ (.int .i64 0)).setCell ⟨w2.heap.size, 5, none⟩ (.int .i64 0))).heap.size := by simp
            have hq5 := hide (show ((((w4.setCell ⟨w2.heap.size, 3, none⟩ (.int .i64 1)).setCell ⟨w2.heap.size, 4, none⟩ (.int .i64 0)).setCell ⟨w2.heap.size, 5, none⟩ (.int .i64 0))).heap.size = w4.heap.size + 0 by simp)
            have hBb_5 : Bx ((((w4.setCell ⟨w2.heap.size, 3, none⟩ (.int .i64 1)).setCell ⟨w2.heap.size, 4, none⟩ (.int .i64 0)).setCell ⟨w2.heap.size, 5, none⟩ (.int .i64 0))) (w.heap.size) [.int .i64 b.pc, .int .i64 b.len, (.slice Ab1 b.ops.length cb1), .int .i64 b.fin, .int .i64 b.x, .int .i64 b.y, .int .i64 b.k] := Bx.hold hBb_4
            have hFb_5 : ∀ oo, ((((w4.setCell ⟨w2.heap.size, 3, none⟩ (.int .i64 1)).setCell ⟨w2.heap.size, 4, none⟩ (.int .i64 0)).setCell ⟨w2.heap.size, 5, none⟩ (.int .i64 0))).frozen? ⟨w.heap.size, oo, none⟩ = false := (fz_hold hFb_4)
            have hBres_5 : Bx ((((w4.setCell ⟨w2.heap.size, 3, none⟩ (.int .i64 1)).setCell ⟨w2.heap.size, 4, none⟩ (.int .i64 0)).setCell ⟨w2.heap.size, 5, none⟩ (.int .i64 0))) (w.heap.size + 1) [.int .i64 0, .int .i64 0, .slice none 0 0, .int .i64 0, .int .i64 0, .int .i64 0, .int .i64 0] := Bx.hold hBres_4
            have hFres_5 : ∀ oo, ((((w4.setCell ⟨w2.heap.size, 3, none⟩ (.int .i64 1)).setCell ⟨w2.heap.size, 4, none⟩ (.int .i64 0)).setCell ⟨w2.heap.size, 5, none⟩ (.int .i64 0))).frozen? ⟨w.heap.size + 1, oo, none⟩ = false := (fz_hold hFres_4)
            have hBu_5 : Bx ((((w4.setCell ⟨w2.heap.size, 3, none⟩ (.int .i64 1)).setCell ⟨w2.heap.size, 4, none⟩ (.int .i64 0)).setCell ⟨w2.heap.size, 5, none⟩ (.int .i64 0))) (w2.heap.size) [.int .i64 b.pc, .int .i64 b.len, (.slice (some ⟨bo, oo1, none⟩) b.ops.length d1), .int .i64 1, .int .i64 0, .int .i64 0, .int .i64 b.k] := (by have := Bx.put (Bx.put (Bx.put hBu_4 (j := 3) (by simp) (.int .i64 1)) (j := 4) (by simp) (.int .i64 0)) (j := 5) (by simp) (.int .i64 0); simpa using this)
            have hFu_5 : ∀ oo, ((((w4.setCell ⟨w2.heap.size, 3, none⟩ (.int .i64 1)).setCell ⟨w2.heap.size, 4, none⟩ (.int .i64 0)).setCell ⟨w2.heap.size, 5, none⟩ (.int .i64 0))).frozen? ⟨w2.heap.size, oo, none⟩ = false := (fz_hold hFu_4)
            have hRo_5 : FRow ((((w4.setCell ⟨w2.heap.size, 3, none⟩ (.int .i64 1)).setCell ⟨w2.heap.size, 4, none⟩ (.int .i64 0)).setCell ⟨w2.heap.size, 5, none⟩ (.int .i64 0))) (bo) oo1 (foldTo b.ops b.ops.length) := FRow.hold hRo_4
            generalize (((w4.setCell ⟨w2.heap.size, 3, none⟩ (.int .i64 1)).setCell ⟨w2.heap.size, 4, none⟩ (.int .i64 0)).setCell ⟨w2.heap.size, 5, none⟩ (.int .i64 0)) = w5 at *
            clear hBb_4 hFb_4 hBres_4 hFres_4 hBu_4 hFu_4 hRo_4
            obtain ⟨hkx9, f0, f1, f2, f3, f4⟩ := hRo_5.op HAx.out
            obtain ⟨hky9, g0, g1, g2, g3, g4⟩ := hRo_5.op HAy.out
            have ybo : bo < w5.heap.size := hRo_5.lt
            have hfb : -10 ≤ b.fin ∧ b.fin ≤ 10 := by have := HF.out; omega
            have hfb0 := hfb.1
            have hfb1 := hfb.2
            clear hfb
            have yb : w.heap.size < w5.heap.size := by omega
            have xb0 := hBb_5 0 _ rfl
            have xb1 := hBb_5 1 _ rfl
            have xb2 := hBb_5 2 _ rfl
            have xb3 := hBb_5 3 _ rfl
            have xb4 := hBb_5 4 _ rfl
            have xb5 := hBb_5 5 _ rfl
            have xb6 := hBb_5 6 _ rfl
            have yu : w2.heap.size < w5.heap.size := by omega
            have xu0 := hBu_5 0 _ rfl
            have xu1 := hBu_5 1 _ rfl
            have xu2 := hBu_5 2 _ rfl
            have xu3 := hBu_5 3 _ rfl
            have xu4 := hBu_5 4 _ rfl
            have xu5 := hBu_5 5 _ rfl
            have xu6 := hBu_5 6 _ rfl
            go_upto_region 15 with fail
            have hS : ∀ w', Ext w5 w' → ∀ bb oo, bb < w5.heap.size → w'.cell? ⟨bb, oo, none⟩ = w5.cell? ⟨bb, oo, none⟩ := fun w' hx bb oo hb => hx.cell hb
            refine wp_region_plan (fun w' => Ext w5 w') 18 (.float 0 (.float 1 (.float 2 (.float 3 (.float 4 (.float 5 (.float 6 (.float 7 (.float 8 (.float 9 (.float 10 (.float 11 (.float 12 (.float 13 (.float 14 (.float 15 (.float 16 (.float 17 (.tail 18))))))))))))))))))) (by kernel_rfl) (by kernel_rfl) (Ext.refl _).drew ?_
            iterate 18 ((refine Plan.float_step (v := ?_) rfl (by rfl) (fun _ _ _ h => h) (fun w' hSw => ?_) ?_; rotate_left; · (go_simp; try with_reducible rfl)); (try simp only [Act.put, List.setIfInBounds_toArray, List.set_cons_zero, List.set_cons_succ]))
            refine Plan.tail_step ?_
            simp only [List.drop_succ_cons, List.drop_zero]
            clear hS
            go_wp2_with fail
            refine (rel_ext2 _ ax.k ay.k _ (by have := HF.out; omega) HWX.out HWY.out).mono ?_
            rintro e w6 ⟨rfl, hy⟩
            clear xb0 xb1 xb2 xb3 xb4 xb5 xb6 yb
            clear xu0 xu1 xu2 xu3 xu4 xu5 xu6 yu
            have hx6 : Ext w5 w6 := Ext.trans (Ext.auto) hy
            have hs6 := hx6.size
            have he6 : Ext w w6 := he5.trans hx6
            have hBb_6 : Bx w6 (w.heap.size) [.int .i64 b.pc, .int .i64 b.len, (.slice Ab1 b.ops.length cb1), .int .i64 b.fin, .int .i64 b.x, .int .i64 b.y, .int .i64 b.k] := hx6.bx hBb_5 (by omega)
            have hFb_6 : ∀ oo, w6.frozen? ⟨w.heap.size, oo, none⟩ = false := fun oo => (hx6.frozen (by omega)).trans (hFb_5 oo)
            have hBres_6 : Bx w6 (w.heap.size + 1) [.int .i64 0, .int .i64 0, .slice none 0 0, .int .i64 0, .int .i64 0, .int .i64 0, .int .i64 0] := hx6.bx hBres_5 (by omega)
            have hFres_6 : ∀ oo, w6.frozen? ⟨w.heap.size + 1, oo, none⟩ = false := fun oo => (hx6.frozen (by omega)).trans (hFres_5 oo)
            have hBu_6 : Bx w6 (w2.heap.size) [.int .i64 b.pc, .int .i64 b.len, (.slice (some ⟨bo, oo1, none⟩) b.ops.length d1), .int .i64 1, .int .i64 0, .int .i64 0, .int .i64 b.k] := hx6.bx hBu_5 (by omega)
            have hFu_6 : ∀ oo, w6.frozen? ⟨w2.heap.size, oo, none⟩ = false := fun oo => (hx6.frozen (by omega)).trans (hFu_5 oo)
            clear hBb_5 hFb_5 hBres_5 hFres_5 hBu_5 hFu_5
            have hRo_6 : FRow w6 (bo) oo1 (foldTo b.ops b.ops.length) := hRo_5.ext hx6
            clear hRo_5
            clear hy
            clear f0 f1 f2 f3 f4 g0 g1 g2 g3 g4 ybo
            by_cases hr : ax.k < ay.k
            · 
              have hrd : decide (ax.k < ay.k) = true := by simp [hr]
              have HR0 := hide hr
              clear hr
              have yb : w.heap.size < w6.heap.size := by omega
              have xb0 := hBb_6 0 _ rfl
              have xb1 := hBb_6 1 _ rfl
              have xb2 := hBb_6 2 _ rfl
              have xb3 := hBb_6 3 _ rfl
              have xb4 := hBb_6 4 _ rfl
              have xb5 := hBb_6 5 _ rfl
              have xb6 := hBb_6 6 _ rfl
              have yu : w2.heap.size < w6.heap.size := by omega
              have xu0 := hBu_6 0 _ rfl
              have xu1 := hBu_6 1 _ rfl
              have xu2 := hBu_6 2 _ rfl
              have xu3 := hBu_6 3 _ rfl
              have xu4 := hBu_6 4 _ rfl
              have xu5 := hBu_6 5 _ rfl
              have xu6 := hBu_6 6 _ rfl
              have fu := hFu_6
              have hE : ∃ F, Sl w6 (Old w6) (.slice (some ⟨bo, oo1, none⟩) b.ops.length d1) (foldTo b.ops b.ops.length) ∧ OwnSl w6 (.slice (some ⟨bo, oo1, none⟩) b.ops.length d1) (foldTo b.ops b.ops.length) F ∧ Fr w w6 F ∧ ∀ q, q ∈ F → q = bo ∧ w1.heap.size ≤ bo := by
                by_cases hK0 : b.ops = []
                · rw [show foldTo b.ops b.ops.length = b.ops by rw [hK0]; rfl]
                  have q := empty_sl ho1 hK0 w6
                  exact ⟨[], q.1, q.2, Fr.nil _ _, fun q hq => by simp at hq⟩
                · obtain ⟨hB1, hbo4⟩ := HV.out hK0
                  obtain ⟨F, g1, g2, g3⟩ := hRo_6.ownB (n := b.ops.length) (c := d1) (by simp [foldTo_length]) (by simpa [foldTo_length] using hd1) hm1 (show w.heap.size ≤ bo by omega)
                  exact ⟨F, hRo_6.sl (n := b.ops.length) (c := d1) (by simp [foldTo_length]) (by simpa [foldTo_length] using hd1) hm1, g1, g2, fun q hq => ⟨g3 q hq, hbo4⟩⟩
              obtain ⟨F5, hS5, ho5, hf5, hq5⟩ := hE
              have yres : w.heap.size + 1 < w6.heap.size := by omega
              have xres0 := hBres_6 0 _ rfl
              have xres1 := hBres_6 1 _ rfl
              have xres2 := hBres_6 2 _ rfl
              have xres3 := hBres_6 3 _ rfl
              have xres4 := hBres_6 4 _ rfl
              have xres5 := hBres_6 5 _ rfl
              have xres6 := hBres_6 6 _ rfl
              have fres := hFres_6
              go_wp2
              have HR : endConst b (foldTo b.ops b.ops.length) = ⟨b.pc, b.len, (foldTo b.ops b.ops.length), 1, 0, 0, b.k⟩ := by have q := HN.out; rw [if_pos (by rw [numAt_eq HAx.out, numAt_eq HAy.out, show b.fin = 4 from HF.out]; simp [HR0.out])] at q; exact q
              first
              | refine bodyPost_ret (v := .agg #[.int .i64 b.pc, .int .i64 b.len, (.slice (some ⟨bo, oo1, none⟩) b.ops.length d1), .int .i64 (1), .int .i64 (0), .int .i64 (0), .int .i64 (b.k)]) (by simp [results, Try.results61, go_sem, xres0, xres1, xres2, xres3, xres4, xres5, xres6, yres]) rfl ⟨_, F5, by rw [HDB.out, HR], ?_, ?_, ?_⟩
              | refine bodyPost_ret (v := .agg #[.int .i64 b.pc, .int .i64 b.len, (.slice (some ⟨bo, oo1, none⟩) b.ops.length d1), .int .i64 (1), .int .i64 (0), .int .i64 (0), .int .i64 (b.k)]) (by simp [results, Try.results61, go_sem, xres0, xres1, xres2, xres3, xres4, xres5, xres6, yres]) rfl ⟨_, by rw [HDB.out, HR], F5, ?_, ?_, ?_⟩
              · rw [HDB.out, endConst_ops]
                exact OwnSl.stay ho5 (fun b hb => by
                  have q := hf5.2 b hb; have q1 := q.1; have q2 := q.2
                  obtain ⟨q3, q4⟩ := hq5 b hb
                  (try rw [drew_heap])
                  repeat (first | rw [heap_set _ _ _ _ (by simp; omega)] | rw [drew_heap]))
              · exact hf5.mk1 (by omega) (by first | (simp; done) | (simp; omega))
              · exact (Ext.hold he6)
            · 
              have hrd : decide (ax.k < ay.k) = false := by simp [hr]
              have HR0 := hide hr
              clear hr
              have yb : w.heap.size < w6.heap.size := by omega
              have xb0 := hBb_6 0 _ rfl
              have xb1 := hBb_6 1 _ rfl
              have xb2 := hBb_6 2 _ rfl
              have xb3 := hBb_6 3 _ rfl
              have xb4 := hBb_6 4 _ rfl
              have xb5 := hBb_6 5 _ rfl
              have xb6 := hBb_6 6 _ rfl
              have yu : w2.heap.size < w6.heap.size := by omega
              have xu0 := hBu_6 0 _ rfl
              have xu1 := hBu_6 1 _ rfl
              have xu2 := hBu_6 2 _ rfl
              have xu3 := hBu_6 3 _ rfl
              have xu4 := hBu_6 4 _ rfl
              have xu5 := hBu_6 5 _ rfl
              have xu6 := hBu_6 6 _ rfl
              have fu := hFu_6
              have hE : ∃ F, Sl w6 (Old w6) (.slice (some ⟨bo, oo1, none⟩) b.ops.length d1) (foldTo b.ops b.ops.length) ∧ OwnSl w6 (.slice (some ⟨bo, oo1, none⟩) b.ops.length d1) (foldTo b.ops b.ops.length) F ∧ Fr w w6 F ∧ ∀ q, q ∈ F → q = bo ∧ w1.heap.size ≤ bo := by
                by_cases hK0 : b.ops = []
                · rw [show foldTo b.ops b.ops.length = b.ops by rw [hK0]; rfl]
                  have q := empty_sl ho1 hK0 w6
                  exact ⟨[], q.1, q.2, Fr.nil _ _, fun q hq => by simp at hq⟩
                · obtain ⟨hB1, hbo4⟩ := HV.out hK0
                  obtain ⟨F, g1, g2, g3⟩ := hRo_6.ownB (n := b.ops.length) (c := d1) (by simp [foldTo_length]) (by simpa [foldTo_length] using hd1) hm1 (show w.heap.size ≤ bo by omega)
                  exact ⟨F, hRo_6.sl (n := b.ops.length) (c := d1) (by simp [foldTo_length]) (by simpa [foldTo_length] using hd1) hm1, g1, g2, fun q hq => ⟨g3 q hq, hbo4⟩⟩
              obtain ⟨F5, hS5, ho5, hf5, hq5⟩ := hE
              have yres : w.heap.size + 1 < w6.heap.size := by omega
              have xres0 := hBres_6 0 _ rfl
              have xres1 := hBres_6 1 _ rfl
              have xres2 := hBres_6 2 _ rfl
              have xres3 := hBres_6 3 _ rfl
              have xres4 := hBres_6 4 _ rfl
              have xres5 := hBres_6 5 _ rfl
              have xres6 := hBres_6 6 _ rfl
              have fres := hFres_6
              go_wp2
              have HR : endConst b (foldTo b.ops b.ops.length) = ⟨b.pc, b.len, (foldTo b.ops b.ops.length), 1, 0, 0, b.pc + b.len⟩ := by have q := HN.out; rw [if_neg (by rw [numAt_eq HAx.out, numAt_eq HAy.out, show b.fin = 4 from HF.out]; simp [HR0.out])] at q; exact q
              first
              | refine bodyPost_ret (v := .agg #[.int .i64 b.pc, .int .i64 b.len, (.slice (some ⟨bo, oo1, none⟩) b.ops.length d1), .int .i64 (1), .int .i64 (0), .int .i64 (0), .int .i64 (b.pc + b.len)]) (by simp [results, Try.results61, go_sem, xres0, xres1, xres2, xres3, xres4, xres5, xres6, yres]) rfl ⟨_, F5, by rw [HDB.out, HR], ?_, ?_, ?_⟩
              | refine bodyPost_ret (v := .agg #[.int .i64 b.pc, .int .i64 b.len, (.slice (some ⟨bo, oo1, none⟩) b.ops.length d1), .int .i64 (1), .int .i64 (0), .int .i64 (0), .int .i64 (b.pc + b.len)]) (by simp [results, Try.results61, go_sem, xres0, xres1, xres2, xres3, xres4, xres5, xres6, yres]) rfl ⟨_, by rw [HDB.out, HR], F5, ?_, ?_, ?_⟩
              · rw [HDB.out, endConst_ops]
                exact OwnSl.stay ho5 (fun b hb => by
                  have q := hf5.2 b hb; have q1 := q.1; have q2 := q.2
                  obtain ⟨q3, q4⟩ := hq5 b hb
                  (try rw [drew_heap])
                  repeat (first | rw [heap_set _ _ _ _ (by simp; omega)] | rw [drew_heap]))
              · exact hf5.mk1 (by omega) (by first | (simp; done) | (simp; omega))
              · exact (Ext.hold he6)

end Go.Proofs.Ytjemadbhpbbhlaa
