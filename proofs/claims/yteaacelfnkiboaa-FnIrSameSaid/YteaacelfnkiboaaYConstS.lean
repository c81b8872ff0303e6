/-
  ConstS
-/
import Derived.Test.YteaacelfnkiboaaYFold
import Derived.Test.YteaacelfnkiboaaYRegLib
namespace Go.Proofs.Yteaacelfnkiboaa
open Go.RowKit

set_option linter.unusedVariables false
set_option linter.unusedSimpArgs false
set_option maxRecDepth 100000

theorem foldTo_get (ops : List IrOp) (k : Nat) (h : k < ops.length) : (foldTo ops k)[k]? = some ops[k] := by
  rw [List.getElem?_eq_getElem (by rw [foldTo_length]; exact h), foldTo_at ops k h]
theorem fold_same (ops : List IrOp) (k : Nat) (h : k < ops.length) (hn : ¬ (ops[k].kind = 3 ∧ kindAt (foldTo ops k) ops[k].x = 1 ∧ kindAt (foldTo ops k) ops[k].y = 1)) : foldTo ops (k + 1) = foldTo ops k := by
  rw [foldTo_succ ops k h]
  unfold foldOp
  rw [if_neg hn]
  exact set_self _ _ _ (foldTo_get ops k h)
theorem fold_new (ops : List IrOp) (k : Nat) (h : k < ops.length) (h3 : ops[k].kind = 3) (hx : kindAt (foldTo ops k) ops[k].x = 1) (hy : kindAt (foldTo ops k) ops[k].y = 1) : foldTo ops (k + 1) = (foldTo ops k).set k ⟨1, 0, 0, wrdDo ops[k].k (numAt (foldTo ops k) ops[k].x) (numAt (foldTo ops k) ops[k].y), 0⟩ := by
  rw [foldTo_succ ops k h]
  unfold foldOp
  rw [if_pos ⟨h3, hx, hy⟩]
theorem const_ok (v : Int) (h : wordB v = true) : (⟨1, 0, 0, v, 0⟩ : IrOp).Ok := by
  simp [wordB] at h
  have f : ∀ n : Int, 0 ≤ n → n < 65536 → Fits n := fun n h1 h2 => fits_small (by omega) (by omega)
  exact ⟨f 1 (by decide) (by decide), f 0 (by decide) (by decide), f 0 (by decide) (by decide), f v h.1 h.2, f 0 (by decide) (by decide)⟩
theorem empty_sl {w : World} {A : Option Addr} {n d : Nat} {l : List IrOp} {F : List Nat} (h : OwnSl w (.slice A n d) l F) (he : l = []) (w' : World) : Sl w' (Old w') (.slice A n d) l ∧ OwnSl w' (.slice A n d) l [] := by
  obtain ⟨_, _, h1, h2, h3, h0, _, _⟩ := h
  injection h1 with h1 h4 h5
  subst h1 h5 he
  exact ⟨⟨_, _, by rw [h4], Nat.zero_le _, h3, h0, fun h => absurd rfl h⟩, ⟨_, _, by rw [h4], Nat.zero_le _, h3, h0, fun _ => rfl, fun h => absurd rfl h⟩⟩

theorem specWrdDo_ext (op a b : Int) (w : World) (ho : 1 ≤ op ∧ op ≤ 5) (ha : wordB a = true) (hb : wordB b = true) : Calls Try.prog 90 #[.int .i64 op, .int .i64 a, .int .i64 b] w fun e w' => e = .returned (.int .i64 (wrdDo op a b)) ∧ Ext w w' :=
  (specWrdDo_any op a b w ho ha hb).mono fun e w' h => ⟨h.1, by rw [← h.2]; exact Ext.refl _⟩

set_option maxHeartbeats 32000000 in
theorem specOptConst_any (b : IrBlock) (vb1 : Value) (w : World) (hb1 : Sl w (Old w) vb1 b.ops) (hkb : b.Ok) :
    Calls Try.prog 103 #[.agg #[.int .i64 b.pc, .int .i64 b.len, vb1, .int .i64 b.fin, .int .i64 b.x, .int .i64 b.y, .int .i64 b.k]] w fun e w' => ∃ r1 F, e = .returned (.agg #[.int .i64 ((optConst b).pc), .int .i64 ((optConst b).len), r1, .int .i64 ((optConst b).fin), .int .i64 ((optConst b).x), .int .i64 ((optConst b).y), .int .i64 ((optConst b).k)]) ∧ OwnSl w' r1 (optConst b).ops F ∧ Fr w w' F ∧ Ext w w' := by
  obtain ⟨Ab1, cb1, rfl, hlb1, hmb1⟩ := hb1.form
  go_enter Try.func103, Try.ntmps103
  go_wp2_with fail
  have he0 : Ext w ((w.alloc (Obj.cells #[.int .i64 b.pc, .int .i64 b.len, (.slice Ab1 b.ops.length cb1), .int .i64 b.fin, .int .i64 b.x, .int .i64 b.y, .int .i64 b.k] 25)).alloc (Obj.cells #[.int .i64 0, .int .i64 0, .slice none 0 0, .int .i64 0, .int .i64 0, .int .i64 0, .int .i64 0] 25)) := (Ext.auto)
  have hs0 : w.heap.size + 2 ≤ (((w.alloc (Obj.cells #[.int .i64 b.pc, .int .i64 b.len, (.slice Ab1 b.ops.length cb1), .int .i64 b.fin, .int .i64 b.x, .int .i64 b.y, .int .i64 b.k] 25)).alloc (Obj.cells #[.int .i64 0, .int .i64 0, .slice none 0 0, .int .i64 0, .int .i64 0, .int .i64 0, .int .i64 0] 25))).heap.size := by simp
  have hq0 := hide (show (((w.alloc (Obj.cells #[.int .i64 b.pc, .int .i64 b.len, (.slice Ab1 b.ops.length cb1), .int .i64 b.fin, .int .i64 b.x, .int .i64 b.y, .int .i64 b.k] 25)).alloc (Obj.cells #[.int .i64 0, .int .i64 0, .slice none 0 0, .int .i64 0, .int .i64 0, .int .i64 0, .int .i64 0] 25))).heap.size = w.heap.size + 2 by simp)
  have hBb_0 : Bx ((w.alloc (Obj.cells #[.int .i64 b.pc, .int .i64 b.len, (.slice Ab1 b.ops.length cb1), .int .i64 b.fin, .int .i64 b.x, .int .i64 b.y, .int .i64 b.k] 25)).alloc (Obj.cells #[.int .i64 0, .int .i64 0, .slice none 0 0, .int .i64 0, .int .i64 0, .int .i64 0, .int .i64 0] 25)) (w.heap.size) [.int .i64 b.pc, .int .i64 b.len, (.slice Ab1 b.ops.length cb1), .int .i64 b.fin, .int .i64 b.x, .int .i64 b.y, .int .i64 b.k] := (by have := (Bx.alloc (Bx.new w #[.int .i64 b.pc, .int .i64 b.len, (.slice Ab1 b.ops.length cb1), .int .i64 b.fin, .int .i64 b.x, .int .i64 b.y, .int .i64 b.k] 25) (by simp) #[.int .i64 0, .int .i64 0, .slice none 0 0, .int .i64 0, .int .i64 0, .int .i64 0, .int .i64 0] 25); simpa using this)
  have hFb_0 : ∀ oo, (((w.alloc (Obj.cells #[.int .i64 b.pc, .int .i64 b.len, (.slice Ab1 b.ops.length cb1), .int .i64 b.fin, .int .i64 b.x, .int .i64 b.y, .int .i64 b.k] 25)).alloc (Obj.cells #[.int .i64 0, .int .i64 0, .slice none 0 0, .int .i64 0, .int .i64 0, .int .i64 0, .int .i64 0] 25))).frozen? ⟨w.heap.size, oo, none⟩ = false := fun oo => by simp
  have hBres_0 : Bx ((w.alloc (Obj.cells #[.int .i64 b.pc, .int .i64 b.len, (.slice Ab1 b.ops.length cb1), .int .i64 b.fin, .int .i64 b.x, .int .i64 b.y, .int .i64 b.k] 25)).alloc (Obj.cells #[.int .i64 0, .int .i64 0, .slice none 0 0, .int .i64 0, .int .i64 0, .int .i64 0, .int .i64 0] 25)) (w.heap.size + 1) [.int .i64 0, .int .i64 0, .slice none 0 0, .int .i64 0, .int .i64 0, .int .i64 0, .int .i64 0] := (by have := (Bx.new (w.alloc (Obj.cells #[.int .i64 b.pc, .int .i64 b.len, (.slice Ab1 b.ops.length cb1), .int .i64 b.fin, .int .i64 b.x, .int .i64 b.y, .int .i64 b.k] 25)) #[.int .i64 0, .int .i64 0, .slice none 0 0, .int .i64 0, .int .i64 0, .int .i64 0, .int .i64 0] 25); simpa using this)
  have hFres_0 : ∀ oo, (((w.alloc (Obj.cells #[.int .i64 b.pc, .int .i64 b.len, (.slice Ab1 b.ops.length cb1), .int .i64 b.fin, .int .i64 b.x, .int .i64 b.y, .int .i64 b.k] 25)).alloc (Obj.cells #[.int .i64 0, .int .i64 0, .slice none 0 0, .int .i64 0, .int .i64 0, .int .i64 0, .int .i64 0] 25))).frozen? ⟨w.heap.size + 1, oo, none⟩ = false := fun oo => by simp
  generalize ((w.alloc (Obj.cells #[.int .i64 b.pc, .int .i64 b.len, (.slice Ab1 b.ops.length cb1), .int .i64 b.fin, .int .i64 b.x, .int .i64 b.y, .int .i64 b.k] 25)).alloc (Obj.cells #[.int .i64 0, .int .i64 0, .slice none 0 0, .int .i64 0, .int .i64 0, .int .i64 0, .int .i64 0] 25)) = w0 at *
  refine (specIrOk_any b _ _ (hb1.ext he0) hkb).mono ?_
  rintro e w1 ⟨rfl, hy⟩
  have hx1 : Ext w0 w1 := Ext.trans (Ext.auto) hy
  have hs1 := hx1.size
  have he1 : Ext w w1 := he0.trans hx1
  have hBb_1 : Bx w1 (w.heap.size) [.int .i64 b.pc, .int .i64 b.len, (.slice Ab1 b.ops.length cb1), .int .i64 b.fin, .int .i64 b.x, .int .i64 b.y, .int .i64 b.k] := hx1.bx hBb_0 (by omega)
  have hFb_1 : ∀ oo, w1.frozen? ⟨w.heap.size, oo, none⟩ = false := fun oo => (hx1.frozen (by omega)).trans (hFb_0 oo)
  have hBres_1 : Bx w1 (w.heap.size + 1) [.int .i64 0, .int .i64 0, .slice none 0 0, .int .i64 0, .int .i64 0, .int .i64 0, .int .i64 0] := hx1.bx hBres_0 (by omega)
  have hFres_1 : ∀ oo, w1.frozen? ⟨w.heap.size + 1, oo, none⟩ = false := fun oo => (hx1.frozen (by omega)).trans (hFres_0 oo)
  clear hBb_0 hFb_0 hBres_0 hFres_0
  clear hy
  cases hok : irOkB b
  · 
    have HNO := hide (optConst_no hok)
    clear hok
    have yres : w.heap.size + 1 < w1.heap.size := by omega
    have xres0 := hBres_1 0 _ rfl
    have xres1 := hBres_1 1 _ rfl
    have xres2 := hBres_1 2 _ rfl
    have xres3 := hBres_1 3 _ rfl
    have xres4 := hBres_1 4 _ rfl
    have xres5 := hBres_1 5 _ rfl
    have xres6 := hBres_1 6 _ rfl
    have fres := hFres_1
    go_wp2
    first
    | refine bodyPost_ret (v := .agg #[.int .i64 0, .int .i64 0, .slice none 0 0, .int .i64 0, .int .i64 0, .int .i64 0, .int .i64 0]) (by simp [results, Try.results103, go_sem, xres0, xres1, xres2, xres3, xres4, xres5, xres6, yres]) rfl ⟨.slice none 0 0, [], by rw [HNO.out]; rfl, by rw [HNO.out]; exact OwnSl.nil _, Fr.nil _ _, (Ext.hold he1)⟩
    | refine bodyPost_ret (v := .agg #[.int .i64 0, .int .i64 0, .slice none 0 0, .int .i64 0, .int .i64 0, .int .i64 0, .int .i64 0]) (by simp [results, Try.results103, go_sem, xres0, xres1, xres2, xres3, xres4, xres5, xres6, yres]) rfl ⟨.slice none 0 0, by rw [HNO.out]; rfl, [], by rw [HNO.out]; exact OwnSl.nil _, Fr.nil _ _, (Ext.hold he1)⟩
  have HOK := hide hok
  clear hok
  have hn48 := ok_n HOK.out
  unfold maxLen at hmb1
  have yb : w.heap.size < w1.heap.size := by omega
  have xb0 := hBb_1 0 _ rfl
  have xb1 := hBb_1 1 _ rfl
  have xb2 := hBb_1 2 _ rfl
  have xb3 := hBb_1 3 _ rfl
  have xb4 := hBb_1 4 _ rfl
  have xb5 := hBb_1 5 _ rfl
  have xb6 := hBb_1 6 _ rfl
  go_wp2_with fail
  clear xb0 xb1 xb2 xb3 xb4 xb5 xb6 yb
  refine (l6Copy_any b _ _ (hb1.ext he1) (by omega)).mono ?_
  rintro e w2 ⟨r1, F1, rfl, ho1, hf1, hy⟩
  have hx2 : Ext w1 w2 := Ext.trans (Ext.auto) hy
  have hs2 := hx2.size
  have he2 : Ext w w2 := he1.trans hx2
  have hBb_2 : Bx w2 (w.heap.size) [.int .i64 b.pc, .int .i64 b.len, (.slice Ab1 b.ops.length cb1), .int .i64 b.fin, .int .i64 b.x, .int .i64 b.y, .int .i64 b.k] := hx2.bx hBb_1 (by omega)
  have hFb_2 : ∀ oo, w2.frozen? ⟨w.heap.size, oo, none⟩ = false := fun oo => (hx2.frozen (by omega)).trans (hFb_1 oo)
  have hBres_2 : Bx w2 (w.heap.size + 1) [.int .i64 0, .int .i64 0, .slice none 0 0, .int .i64 0, .int .i64 0, .int .i64 0, .int .i64 0] := hx2.bx hBres_1 (by omega)
  have hFres_2 : ∀ oo, w2.frozen? ⟨w.heap.size + 1, oo, none⟩ = false := fun oo => (hx2.frozen (by omega)).trans (hFres_1 oo)
  clear hBb_1 hFb_1 hBres_1 hFres_1
  clear hy
  obtain ⟨B1, d1, rfl, hd1, hm1⟩ := ho1.sl.form
  obtain ⟨bo, oo1, hv, hbo1, hbo2, hbo3, hRo_2⟩ : ∃ bo oo1, (b.ops ≠ [] → B1 = some ⟨bo, oo1, none⟩ ∧ w1.heap.size ≤ bo) ∧ w.heap.size ≤ bo ∧ bo ≠ w.heap.size + 1 ∧ bo < w2.heap.size ∧ FRow w2 bo oo1 b.ops := by
    by_cases hK0 : b.ops = []
    · exact ⟨w.heap.size, 0, fun h => absurd hK0 h, Nat.le_refl _, by omega, by omega, ⟨fun o => hFb_2 o, by omega, fun i a ha => by rw [hK0] at ha; simp at ha⟩⟩
    · obtain ⟨bo, oo1, hv, hge, hRo⟩ := FRow.of_own ho1 hf1 (by cases hq : b.ops with | nil => exact absurd hq hK0 | cons a l => simp)
      exact ⟨bo, oo1, fun _ => ⟨hv, hge⟩, by omega, by omega, hRo.lt, hRo⟩
  have HV := hide hv
  clear hv
  go_wp2_with fail
  have he3 : Ext w (w2.alloc (Obj.cells #[.int .i64 b.pc, .int .i64 b.len, (.slice B1 b.ops.length d1), .int .i64 b.fin, .int .i64 b.x, .int .i64 b.y, .int .i64 b.k] 25)) := (Ext.hold he2)
  have hs3 : w2.heap.size + 1 ≤ ((w2.alloc (Obj.cells #[.int .i64 b.pc, .int .i64 b.len, (.slice B1 b.ops.length d1), .int .i64 b.fin, .int .i64 b.x, .int .i64 b.y, .int .i64 b.k] 25))).heap.size := by simp
  have hq3 := hide (show ((w2.alloc (Obj.cells #[.int .i64 b.pc, .int .i64 b.len, (.slice B1 b.ops.length d1), .int .i64 b.fin, .int .i64 b.x, .int .i64 b.y, .int .i64 b.k] 25))).heap.size = w2.heap.size + 1 by simp)
  have hlto_3 : bo < w2.heap.size := hRo_2.lt
  have hBb_3 : Bx ((w2.alloc (Obj.cells #[.int .i64 b.pc, .int .i64 b.len, (.slice B1 b.ops.length d1), .int .i64 b.fin, .int .i64 b.x, .int .i64 b.y, .int .i64 b.k] 25))) (w.heap.size) [.int .i64 b.pc, .int .i64 b.len, (.slice Ab1 b.ops.length cb1), .int .i64 b.fin, .int .i64 b.x, .int .i64 b.y, .int .i64 b.k] := Bx.hold hBb_2
  have hFb_3 : ∀ oo, ((w2.alloc (Obj.cells #[.int .i64 b.pc, .int .i64 b.len, (.slice B1 b.ops.length d1), .int .i64 b.fin, .int .i64 b.x, .int .i64 b.y, .int .i64 b.k] 25))).frozen? ⟨w.heap.size, oo, none⟩ = false := (fz_hold hFb_2)
  have hBres_3 : Bx ((w2.alloc (Obj.cells #[.int .i64 b.pc, .int .i64 b.len, (.slice B1 b.ops.length d1), .int .i64 b.fin, .int .i64 b.x, .int .i64 b.y, .int .i64 b.k] 25))) (w.heap.size + 1) [.int .i64 0, .int .i64 0, .slice none 0 0, .int .i64 0, .int .i64 0, .int .i64 0, .int .i64 0] := Bx.hold hBres_2
  have hFres_3 : ∀ oo, ((w2.alloc (Obj.cells #[.int .i64 b.pc, .int .i64 b.len, (.slice B1 b.ops.length d1), .int .i64 b.fin, .int .i64 b.x, .int .i64 b.y, .int .i64 b.k] 25))).frozen? ⟨w.heap.size + 1, oo, none⟩ = false := (fz_hold hFres_2)
  have hRo_3 : FRow ((w2.alloc (Obj.cells #[.int .i64 b.pc, .int .i64 b.len, (.slice B1 b.ops.length d1), .int .i64 b.fin, .int .i64 b.x, .int .i64 b.y, .int .i64 b.k] 25))) (bo) oo1 (b.ops) := FRow.hold hRo_2
  have hBx_3 : Bx ((w2.alloc (Obj.cells #[.int .i64 b.pc, .int .i64 b.len, (.slice B1 b.ops.length d1), .int .i64 b.fin, .int .i64 b.x, .int .i64 b.y, .int .i64 b.k] 25))) (w2.heap.size) [.int .i64 b.pc, .int .i64 b.len, (.slice B1 b.ops.length d1), .int .i64 b.fin, .int .i64 b.x, .int .i64 b.y, .int .i64 b.k] := (Bx.new w2 #[.int .i64 b.pc, .int .i64 b.len, (.slice B1 b.ops.length d1), .int .i64 b.fin, .int .i64 b.x, .int .i64 b.y, .int .i64 b.k] 25)
  have hFx_3 : ∀ oo, ((w2.alloc (Obj.cells #[.int .i64 b.pc, .int .i64 b.len, (.slice B1 b.ops.length d1), .int .i64 b.fin, .int .i64 b.x, .int .i64 b.y, .int .i64 b.k] 25))).frozen? ⟨w2.heap.size, oo, none⟩ = false := (fz_new w2 #[.int .i64 b.pc, .int .i64 b.len, (.slice B1 b.ops.length d1), .int .i64 b.fin, .int .i64 b.x, .int .i64 b.y, .int .i64 b.k] 25 rfl)
  generalize (w2.alloc (Obj.cells #[.int .i64 b.pc, .int .i64 b.len, (.slice B1 b.ops.length d1), .int .i64 b.fin, .int .i64 b.x, .int .i64 b.y, .int .i64 b.k] 25)) = w3 at *
  clear hBb_2 hFb_2 hBres_2 hFres_2 hRo_2
  go_loopw [4] (fun i w4 => ∃ (k : Nat), k ≤ b.ops.length ∧ i = .int .i64 (k : Int) ∧ Ext w w4 ∧ w3.heap.size ≤ w4.heap.size ∧ Bx w4 (w.heap.size) [.int .i64 b.pc, .int .i64 b.len, (.slice Ab1 b.ops.length cb1), .int .i64 b.fin, .int .i64 b.x, .int .i64 b.y, .int .i64 b.k] ∧ (∀ oo, w4.frozen? ⟨w.heap.size, oo, none⟩ = false) ∧ Bx w4 (w.heap.size + 1) [.int .i64 0, .int .i64 0, .slice none 0 0, .int .i64 0, .int .i64 0, .int .i64 0, .int .i64 0] ∧ (∀ oo, w4.frozen? ⟨w.heap.size + 1, oo, none⟩ = false) ∧ Bx w4 (w2.heap.size) [.int .i64 b.pc, .int .i64 b.len, (.slice B1 b.ops.length d1), .int .i64 b.fin, .int .i64 b.x, .int .i64 b.y, .int .i64 b.k] ∧ (∀ oo, w4.frozen? ⟨w2.heap.size, oo, none⟩ = false) ∧ FRow w4 (bo) oo1 (foldTo b.ops k)) (fun i _ => b.ops.length - (intOf i).toNat)
  case atStart => exact ⟨0, by omega, rfl, he3, Nat.le_refl _, hBb_3, hFb_3, hBres_3, hFres_3, hBx_3, hFx_3, hRo_3⟩
  case round =>
    obtain ⟨w4, hwr⟩ : ∃ w4 : World, w4 = wr := ⟨_, rfl⟩
    subst hwr
    obtain ⟨k, hk, rfl, he4, hs4, hBb_4, hFb_4, hBres_4, hFres_4, hBx_4, hFx_4, hRo_4⟩ := hrel
    by_cases hlt : k < b.ops.length
    · 
      obtain ⟨hB1, hbo4⟩ := HV.out (by intro h; rw [h] at hlt; simp at hlt)
      subst hB1
      have z0 : (0 : Int) ≤ (k : Int) := by omega
      have z1 : (k : Int) < (b.ops.length : Int) := by omega
      have HLF := hide (foldTo_length b.ops k)
      have HG := hide (foldTo_get b.ops k hlt)
      obtain ⟨hk0, e0, e1, e2, e3, e4⟩ := hRo_4.op HG.out
      have ybo : bo < w4.heap.size := hRo_4.lt
      have HB := ok_below HOK.out k hlt
      have HD := hide (fun q => op_d (ok_ops HOK.out k hlt) q)
      have yx : w2.heap.size < w4.heap.size := by omega
      have xx0 := hBx_4 0 _ rfl
      have xx1 := hBx_4 1 _ rfl
      have xx2 := hBx_4 2 _ rfl
      have xx3 := hBx_4 3 _ rfl
      have xx4 := hBx_4 4 _ rfl
      have xx5 := hBx_4 5 _ rfl
      have xx6 := hBx_4 6 _ rfl
      go_upto_region 8 with fail
      clear xx0 xx1 xx2 xx3 xx4 xx5 xx6 yx
      have he5 : Ext w (w4.alloc (Obj.cells #[.int .i64 (b.ops[k].kind), .int .i64 (b.ops[k].x), .int .i64 (b.ops[k].y), .int .i64 (b.ops[k].k), .int .i64 (b.ops[k].at_)] 58)) := (Ext.hold he4)
      have hs5 : w4.heap.size + 1 ≤ ((w4.alloc (Obj.cells #[.int .i64 (b.ops[k].kind), .int .i64 (b.ops[k].x), .int .i64 (b.ops[k].y), .int .i64 (b.ops[k].k), .int .i64 (b.ops[k].at_)] 58))).heap.size := by simp
      have hq5 := hide (show ((w4.alloc (Obj.cells #[.int .i64 (b.ops[k].kind), .int .i64 (b.ops[k].x), .int .i64 (b.ops[k].y), .int .i64 (b.ops[k].k), .int .i64 (b.ops[k].at_)] 58))).heap.size = w4.heap.size + 1 by simp)
      have hlto_5 : bo < w4.heap.size := hRo_4.lt
      have hBb_5 : Bx ((w4.alloc (Obj.cells #[.int .i64 (b.ops[k].kind), .int .i64 (b.ops[k].x), .int .i64 (b.ops[k].y), .int .i64 (b.ops[k].k), .int .i64 (b.ops[k].at_)] 58))) (w.heap.size) [.int .i64 b.pc, .int .i64 b.len, (.slice Ab1 b.ops.length cb1), .int .i64 b.fin, .int .i64 b.x, .int .i64 b.y, .int .i64 b.k] := Bx.hold hBb_4
      have hFb_5 : ∀ oo, ((w4.alloc (Obj.cells #[.int .i64 (b.ops[k].kind), .int .i64 (b.ops[k].x), .int .i64 (b.ops[k].y), .int .i64 (b.ops[k].k), .int .i64 (b.ops[k].at_)] 58))).frozen? ⟨w.heap.size, oo, none⟩ = false := (fz_hold hFb_4)
      have hBres_5 : Bx ((w4.alloc (Obj.cells #[.int .i64 (b.ops[k].kind), .int .i64 (b.ops[k].x), .int .i64 (b.ops[k].y), .int .i64 (b.ops[k].k), .int .i64 (b.ops[k].at_)] 58))) (w.heap.size + 1) [.int .i64 0, .int .i64 0, .slice none 0 0, .int .i64 0, .int .i64 0, .int .i64 0, .int .i64 0] := Bx.hold hBres_4
      have hFres_5 : ∀ oo, ((w4.alloc (Obj.cells #[.int .i64 (b.ops[k].kind), .int .i64 (b.ops[k].x), .int .i64 (b.ops[k].y), .int .i64 (b.ops[k].k), .int .i64 (b.ops[k].at_)] 58))).frozen? ⟨w.heap.size + 1, oo, none⟩ = false := (fz_hold hFres_4)
      have hBx_5 : Bx ((w4.alloc (Obj.cells #[.int .i64 (b.ops[k].kind), .int .i64 (b.ops[k].x), .int .i64 (b.ops[k].y), .int .i64 (b.ops[k].k), .int .i64 (b.ops[k].at_)] 58))) (w2.heap.size) [.int .i64 b.pc, .int .i64 b.len, (.slice (some ⟨bo, oo1, none⟩) b.ops.length d1), .int .i64 b.fin, .int .i64 b.x, .int .i64 b.y, .int .i64 b.k] := Bx.hold hBx_4
      have hFx_5 : ∀ oo, ((w4.alloc (Obj.cells #[.int .i64 (b.ops[k].kind), .int .i64 (b.ops[k].x), .int .i64 (b.ops[k].y), .int .i64 (b.ops[k].k), .int .i64 (b.ops[k].at_)] 58))).frozen? ⟨w2.heap.size, oo, none⟩ = false := (fz_hold hFx_4)
      have hRo_5 : FRow ((w4.alloc (Obj.cells #[.int .i64 (b.ops[k].kind), .int .i64 (b.ops[k].x), .int .i64 (b.ops[k].y), .int .i64 (b.ops[k].k), .int .i64 (b.ops[k].at_)] 58))) (bo) oo1 (foldTo b.ops k) := FRow.hold hRo_4
      have hBo_5 : Bx ((w4.alloc (Obj.cells #[.int .i64 (b.ops[k].kind), .int .i64 (b.ops[k].x), .int .i64 (b.ops[k].y), .int .i64 (b.ops[k].k), .int .i64 (b.ops[k].at_)] 58))) (w4.heap.size) [.int .i64 (b.ops[k].kind), .int .i64 (b.ops[k].x), .int .i64 (b.ops[k].y), .int .i64 (b.ops[k].k), .int .i64 (b.ops[k].at_)] := (Bx.new w4 #[.int .i64 (b.ops[k].kind), .int .i64 (b.ops[k].x), .int .i64 (b.ops[k].y), .int .i64 (b.ops[k].k), .int .i64 (b.ops[k].at_)] 58)
      have hFo_5 : ∀ oo, ((w4.alloc (Obj.cells #[.int .i64 (b.ops[k].kind), .int .i64 (b.ops[k].x), .int .i64 (b.ops[k].y), .int .i64 (b.ops[k].k), .int .i64 (b.ops[k].at_)] 58))).frozen? ⟨w4.heap.size, oo, none⟩ = false := (fz_new w4 #[.int .i64 (b.ops[k].kind), .int .i64 (b.ops[k].x), .int .i64 (b.ops[k].y), .int .i64 (b.ops[k].k), .int .i64 (b.ops[k].at_)] 58 rfl)
      generalize (w4.alloc (Obj.cells #[.int .i64 (b.ops[k].kind), .int .i64 (b.ops[k].x), .int .i64 (b.ops[k].y), .int .i64 (b.ops[k].k), .int .i64 (b.ops[k].at_)] 58)) = w5 at *
      clear hBb_4 hFb_4 hBres_4 hFres_4 hBx_4 hFx_4 hRo_4
      clear e0 e1 e2 e3 e4 ybo
      have hS := hRo_5.sl (n := b.ops.length) (c := d1) HLF.out.symm (by rw [HLF.out]; exact hd1) hm1
      by_cases k3 : b.ops[k].kind = 3
      · 
        have q3 : (b.ops[k].kind == 3) = true := by simp [k3]
        have hx := HB.1 (by rw [k3]; rfl)
        have hy := HB.2 (by rw [k3]; rfl)
        have KX := hide (known_in (foldTo b.ops k) b.ops[k].x hx.1 (by rw [HLF.out]; omega))
        have KY := hide (known_in (foldTo b.ops k) b.ops[k].y hy.1 (by rw [HLF.out]; omega))
        have HOP := hide (HD.out k3)
        have K3 := hide k3
        clear k3 hx hy
        have yx : w2.heap.size < w5.heap.size := by omega
        have xx0 := hBx_5 0 _ rfl
        have xx1 := hBx_5 1 _ rfl
        have xx2 := hBx_5 2 _ rfl
        have xx3 := hBx_5 3 _ rfl
        have xx4 := hBx_5 4 _ rfl
        have xx5 := hBx_5 5 _ rfl
        have xx6 := hBx_5 6 _ rfl
        have yo : w4.heap.size < w5.heap.size := by omega
        have xo0 := hBo_5 0 _ rfl
        have xo1 := hBo_5 1 _ rfl
        have xo2 := hBo_5 2 _ rfl
        have xo3 := hBo_5 3 _ rfl
        have xo4 := hBo_5 4 _ rfl
        go_wp2_with fail
        refine (l10Known_any (foldTo b.ops k) b.ops[k].x _ _ hS).mono ?_
        rintro e w' ⟨rfl, rfl⟩
        have HVx := hide (knownV_yes (foldTo b.ops k) b.ops[k].x)
        generalize knownV (foldTo b.ops k) b.ops[k].x = px at *
        generalize knownB (foldTo b.ops k) b.ops[k].x = qx at *
        go_wp2_with fail
        refine (l10Known_any (foldTo b.ops k) b.ops[k].y _ _ hS).mono ?_
        rintro e w' ⟨rfl, rfl⟩
        have HVy := hide (knownV_yes (foldTo b.ops k) b.ops[k].y)
        generalize knownV (foldTo b.ops k) b.ops[k].y = py at *
        generalize knownB (foldTo b.ops k) b.ops[k].y = qy at *
        cases qx
        · 
          go_wp2_with fail
          go_roundw
          case rel => exact ⟨k + 1, by omega, by go_num, (Ext.hold he5), (by first | omega | (simp; omega)), (Bx.hold hBb_5), (fz_hold hFb_5), (Bx.hold hBres_5), (fz_hold hFres_5), (Bx.hold hBx_5), (fz_hold hFx_5), (by rw [fold_same b.ops k hlt (fun h => fold_no KX.out rfl h.2.1)]; exact hRo_5)⟩
          case measure => (simp [intOf]; try omega)
        · 
          cases qy
          · 
            go_wp2_with fail
            go_roundw
            case rel => exact ⟨k + 1, by omega, by go_num, (Ext.hold he5), (by first | omega | (simp; omega)), (Bx.hold hBb_5), (fz_hold hFb_5), (Bx.hold hBres_5), (fz_hold hFres_5), (Bx.hold hBx_5), (fz_hold hFx_5), (by rw [fold_same b.ops k hlt (fun h => fold_no KY.out rfl h.2.2)]; exact hRo_5)⟩
            case measure => (simp [intOf]; try omega)
          · 
            have hkx := fold_yes KX.out rfl
            have hky := fold_yes KY.out rfl
            have hpx := HVx.out rfl
            have hpy := HVy.out rfl
            have HWX := hide (num_wordk HOK.out k hk _ hkx)
            have HWY := hide (num_wordk HOK.out k hk _ hky)
            have HN := hide (fold_new b.ops k hlt K3.out hkx hky)
            have HOW := hide (const_ok _ (wrdDo_word b.ops[k].k (numAt (foldTo b.ops k) b.ops[k].x) (numAt (foldTo b.ops k) b.ops[k].y)))
            rw [← hpx] at HWX HN HOW
            rw [← hpy] at HWY HN HOW
            clear hkx hky hpx hpy
            go_upto_region 11 with fail
            have hS : ∀ w', Ext w5 w' → ∀ bb oo, bb < w5.heap.size → w'.cell? ⟨bb, oo, none⟩ = w5.cell? ⟨bb, oo, none⟩ := fun w' hx bb oo hb => hx.cell hb
            refine wp_region_plan (fun w' => Ext w5 w') 9 (.float 0 (.float 1 (.float 2 (.float 3 (.float 4 (.float 5 (.float 6 (.chain 7 (.float 8 (.tail 9)))))))))) (by kernel_rfl) (by kernel_rfl) (Ext.refl _).drew ?_
            iterate 7 ((refine Plan.float_step (v := ?_) rfl (by rfl) (fun _ _ _ h => h) (fun w' hSw => ?_) ?_; rotate_left; · (go_simp; try with_reducible rfl)); (try simp only [Act.put, List.setIfInBounds_toArray, List.set_cons_zero, List.set_cons_succ]))
            refine Plan.chain_step rfl (fun K hK => ?_)
            go_simp
            refine (specWrdDo_ext b.ops[k].k px py _ HOP.out HWX.out HWY.out).mono ?_
            rintro e w6 ⟨rfl, hy⟩
            refine hK.out _ _ (Ext.trans (Ext.auto) hy) ?_
            clear hK
            (try simp only [Act.put, List.setIfInBounds_toArray, List.set_cons_zero, List.set_cons_succ])
            clear xx0 xx1 xx2 xx3 xx4 xx5 xx6 yx
            clear xo0 xo1 xo2 xo3 xo4 yo
            have hx6 : Ext w5 w6 := Ext.trans (Ext.auto) hy
            have hs6 := hx6.size
            have he6 : Ext w w6 := he5.trans hx6
            have hBb_6 : Bx w6 (w.heap.size) [.int .i64 b.pc, .int .i64 b.len, (.slice Ab1 b.ops.length cb1), .int .i64 b.fin, .int .i64 b.x, .int .i64 b.y, .int .i64 b.k] := hx6.bx hBb_5 (by omega)
            have hFb_6 : ∀ oo, w6.frozen? ⟨w.heap.size, oo, none⟩ = false := fun oo => (hx6.frozen (by omega)).trans (hFb_5 oo)
            have hBres_6 : Bx w6 (w.heap.size + 1) [.int .i64 0, .int .i64 0, .slice none 0 0, .int .i64 0, .int .i64 0, .int .i64 0, .int .i64 0] := hx6.bx hBres_5 (by omega)
            have hFres_6 : ∀ oo, w6.frozen? ⟨w.heap.size + 1, oo, none⟩ = false := fun oo => (hx6.frozen (by omega)).trans (hFres_5 oo)
            have hBx_6 : Bx w6 (w2.heap.size) [.int .i64 b.pc, .int .i64 b.len, (.slice (some ⟨bo, oo1, none⟩) b.ops.length d1), .int .i64 b.fin, .int .i64 b.x, .int .i64 b.y, .int .i64 b.k] := hx6.bx hBx_5 (by omega)
            have hFx_6 : ∀ oo, w6.frozen? ⟨w2.heap.size, oo, none⟩ = false := fun oo => (hx6.frozen (by omega)).trans (hFx_5 oo)
            have hBo_6 : Bx w6 (w4.heap.size) [.int .i64 (b.ops[k].kind), .int .i64 (b.ops[k].x), .int .i64 (b.ops[k].y), .int .i64 (b.ops[k].k), .int .i64 (b.ops[k].at_)] := hx6.bx hBo_5 (by omega)
            have hFo_6 : ∀ oo, w6.frozen? ⟨w4.heap.size, oo, none⟩ = false := fun oo => (hx6.frozen (by omega)).trans (hFo_5 oo)
            clear hBb_5 hFb_5 hBres_5 hFres_5 hBx_5 hFx_5 hBo_5 hFo_5
            have hRo_6 : FRow w6 (bo) oo1 (foldTo b.ops k) := hRo_5.ext hx6
            clear hRo_5
            clear hy
            (refine Plan.float_step (v := ?_) rfl (by rfl) (fun _ _ _ h => h) (fun w' hSw => ?_) ?_; rotate_left; · (go_simp; try with_reducible rfl)); (try simp only [Act.put, List.setIfInBounds_toArray, List.set_cons_zero, List.set_cons_succ])
            refine Plan.tail_step ?_
            simp only [List.drop_succ_cons, List.drop_zero]
            clear hS
            obtain ⟨hk9, e0, e1, e2, e3, e4⟩ := hRo_6.op HG.out
            have zo := hRo_6.fz
            have ybo : bo < w6.heap.size := hRo_6.lt
            go_wp2_with fail
            go_roundw
            case rel => exact ⟨k + 1, by omega, by go_num, (Ext.hold he6), (by first | omega | (simp; omega)), (Bx.hold hBb_6), (fz_hold hFb_6), (Bx.hold hBres_6), (fz_hold hFres_6), (Bx.hold hBx_6), (fz_hold hFx_6), (by rw [HN.out]; exact hRo_6.setOp HG.out ⟨1, 0, 0, wrdDo b.ops[k].k px py, 0⟩ HOW.out)⟩
            case measure => (simp [intOf]; try omega)
      · 
        have q3 : (b.ops[k].kind == 3) = false := by simp [k3]
        have K3 := hide k3
        clear k3
        have yx : w2.heap.size < w5.heap.size := by omega
        have xx0 := hBx_5 0 _ rfl
        have xx1 := hBx_5 1 _ rfl
        have xx2 := hBx_5 2 _ rfl
        have xx3 := hBx_5 3 _ rfl
        have xx4 := hBx_5 4 _ rfl
        have xx5 := hBx_5 5 _ rfl
        have xx6 := hBx_5 6 _ rfl
        have yo : w4.heap.size < w5.heap.size := by omega
        have xo0 := hBo_5 0 _ rfl
        have xo1 := hBo_5 1 _ rfl
        have xo2 := hBo_5 2 _ rfl
        have xo3 := hBo_5 3 _ rfl
        have xo4 := hBo_5 4 _ rfl
        go_wp2_with fail
        refine (l10Known_any (foldTo b.ops k) b.ops[k].x _ _ hS).mono ?_
        rintro e w' ⟨rfl, rfl⟩
        have HVx := hide (knownV_yes (foldTo b.ops k) b.ops[k].x)
        generalize knownV (foldTo b.ops k) b.ops[k].x = px at *
        generalize knownB (foldTo b.ops k) b.ops[k].x = qx at *
        go_wp2_with fail
        refine (l10Known_any (foldTo b.ops k) b.ops[k].y _ _ hS).mono ?_
        rintro e w' ⟨rfl, rfl⟩
        have HVy := hide (knownV_yes (foldTo b.ops k) b.ops[k].y)
        generalize knownV (foldTo b.ops k) b.ops[k].y = py at *
        generalize knownB (foldTo b.ops k) b.ops[k].y = qy at *
        go_wp2_with fail
        go_roundw
        case rel => exact ⟨k + 1, by omega, by go_num, (Ext.hold he5), (by first | omega | (simp; omega)), (Bx.hold hBb_5), (fz_hold hFb_5), (Bx.hold hBres_5), (fz_hold hFres_5), (Bx.hold hBx_5), (fz_hold hFx_5), (by rw [fold_same b.ops k hlt (fun h => K3.out h.1)]; exact hRo_5)⟩
        case measure => (simp [intOf]; try omega)
    · 
      obtain rfl : k = b.ops.length := by omega
      have hE : ∃ F, Sl w4 (Old w4) (.slice B1 b.ops.length d1) (foldTo b.ops b.ops.length) ∧ OwnSl w4 (.slice B1 b.ops.length d1) (foldTo b.ops b.ops.length) F ∧ Fr w w4 F ∧ ∀ q, q ∈ F → q = bo ∧ w1.heap.size ≤ bo := by
        by_cases hK0 : b.ops = []
        · rw [show foldTo b.ops b.ops.length = b.ops by rw [hK0]; rfl]
          have q := empty_sl ho1 hK0 w4
          exact ⟨[], q.1, q.2, Fr.nil _ _, fun q hq => by simp at hq⟩
        · obtain ⟨hB1, hbo4⟩ := HV.out hK0
          subst hB1
          obtain ⟨F, g1, g2, g3⟩ := hRo_4.ownB (n := b.ops.length) (c := d1) (by simp [foldTo_length]) (by simpa [foldTo_length] using hd1) hm1 (show w.heap.size ≤ bo by omega)
          exact ⟨F, hRo_4.sl (n := b.ops.length) (c := d1) (by simp [foldTo_length]) (by simpa [foldTo_length] using hd1) hm1, g1, g2, fun q hq => ⟨g3 q hq, hbo4⟩⟩
      obtain ⟨F5, hS5, ho5, hf5, hq5⟩ := hE
      have HDB := hide (optConst_eq HOK.out)
      have HE := ok_end HOK.out
      have HP := ok_pc HOK.out
      have HLn := ok_len HOK.out
      have HLF := hide (foldTo_length b.ops b.ops.length)
      clear hRo_4
      have yx : w2.heap.size < w4.heap.size := by omega
      have xx0 := hBx_4 0 _ rfl
      have xx1 := hBx_4 1 _ rfl
      have xx2 := hBx_4 2 _ rfl
      have xx3 := hBx_4 3 _ rfl
      have xx4 := hBx_4 4 _ rfl
      have xx5 := hBx_4 5 _ rfl
      have xx6 := hBx_4 6 _ rfl
      go_wp2_with fail
      clear xx0 xx1 xx2 xx3 xx4 xx5 xx6 yx
      refine (l10Fold_any ⟨b.pc, b.len, foldTo b.ops b.ops.length, b.fin, b.x, b.y, b.k⟩ _ _ hS5 (show 1 ≤ b.fin ∧ b.fin ≤ 4 from end_fin HE) (fun q => by show 0 ≤ b.x ∧ b.x < ((foldTo b.ops b.ops.length).length : Int); rw [HLF.out]; exact end_x HE q) (fun q => by show 0 ≤ b.y ∧ b.y < ((foldTo b.ops b.ops.length).length : Int); rw [HLF.out]; exact end_y HE q) (fun q => show b.y = 0 from end_y0 HE (.inr q)) HP.1 (by show b.pc ≤ 64; omega) (by show 0 ≤ b.len; omega) (by show b.len ≤ 64; omega)).mono ?_
      rintro e w5 ⟨rfl, hy⟩
      rw [show endConst ⟨b.pc, b.len, foldTo b.ops b.ops.length, b.fin, b.x, b.y, b.k⟩ (⟨b.pc, b.len, foldTo b.ops b.ops.length, b.fin, b.x, b.y, b.k⟩ : IrBlock).ops = optConst b from HDB.out.symm]
      have hx5 : Ext w4 w5 := Ext.trans (Ext.auto) hy
      have hs5 := hx5.size
      have he5 : Ext w w5 := he4.trans hx5
      have hBb_5 : Bx w5 (w.heap.size) [.int .i64 b.pc, .int .i64 b.len, (.slice Ab1 b.ops.length cb1), .int .i64 b.fin, .int .i64 b.x, .int .i64 b.y, .int .i64 b.k] := hx5.bx hBb_4 (by omega)
      have hFb_5 : ∀ oo, w5.frozen? ⟨w.heap.size, oo, none⟩ = false := fun oo => (hx5.frozen (by omega)).trans (hFb_4 oo)
      have hBres_5 : Bx w5 (w.heap.size + 1) [.int .i64 0, .int .i64 0, .slice none 0 0, .int .i64 0, .int .i64 0, .int .i64 0, .int .i64 0] := hx5.bx hBres_4 (by omega)
      have hFres_5 : ∀ oo, w5.frozen? ⟨w.heap.size + 1, oo, none⟩ = false := fun oo => (hx5.frozen (by omega)).trans (hFres_4 oo)
      have hBx_5 : Bx w5 (w2.heap.size) [.int .i64 b.pc, .int .i64 b.len, (.slice B1 b.ops.length d1), .int .i64 b.fin, .int .i64 b.x, .int .i64 b.y, .int .i64 b.k] := hx5.bx hBx_4 (by omega)
      have hFx_5 : ∀ oo, w5.frozen? ⟨w2.heap.size, oo, none⟩ = false := fun oo => (hx5.frozen (by omega)).trans (hFx_4 oo)
      clear hBb_4 hFb_4 hBres_4 hFres_4 hBx_4 hFx_4
      
      have yres : w.heap.size + 1 < w5.heap.size := by omega
      have xres0 := hBres_5 0 _ rfl
      have xres1 := hBres_5 1 _ rfl
      have xres2 := hBres_5 2 _ rfl
      have xres3 := hBres_5 3 _ rfl
      have xres4 := hBres_5 4 _ rfl
      have xres5 := hBres_5 5 _ rfl
      have xres6 := hBres_5 6 _ rfl
      have fres := hFres_5
      go_wp2
      first
      | refine bodyPost_ret (v := .agg #[.int .i64 ((optConst b).pc), .int .i64 ((optConst b).len), (.slice B1 b.ops.length d1), .int .i64 ((optConst b).fin), .int .i64 ((optConst b).x), .int .i64 ((optConst b).y), .int .i64 ((optConst b).k)]) (by simp [results, Try.results103, go_sem, xres0, xres1, xres2, xres3, xres4, xres5, xres6, yres]) rfl ⟨_, F5, rfl, ?_, ?_, ?_⟩
      | refine bodyPost_ret (v := .agg #[.int .i64 ((optConst b).pc), .int .i64 ((optConst b).len), (.slice B1 b.ops.length d1), .int .i64 ((optConst b).fin), .int .i64 ((optConst b).x), .int .i64 ((optConst b).y), .int .i64 ((optConst b).k)]) (by simp [results, Try.results103, go_sem, xres0, xres1, xres2, xres3, xres4, xres5, xres6, yres]) rfl ⟨_, rfl, F5, ?_, ?_, ?_⟩
      · rw [HDB.out, endConst_ops]
        exact OwnSl.stay ho5 (fun b hb => by
          have q := hf5.2 b hb; have q1 := q.1; have q2 := q.2
          obtain ⟨q3, q4⟩ := hq5 b hb
          repeat (first | rw [heap_set _ _ _ _ (by simp; omega)] | rw [Ext.heap hx5 (by omega)]))
      · exact hf5.mk1 (by omega) (by first | (simp; done) | (simp; omega))
      · exact (Ext.hold he5)

end Go.Proofs.Yteaacelfnkiboaa
