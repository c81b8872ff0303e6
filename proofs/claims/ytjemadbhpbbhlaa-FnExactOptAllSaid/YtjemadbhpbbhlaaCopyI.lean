/-
  A block with copies in the place of registers: the program.
-/
import Derived.Test.YtjemadbhpbbhlaaOptDead
import Derived.Test.YtjemadbhpbbhlaaByteLib
import Derived.Test.YtjemadbhpbbhlaaRename
import Derived.Test.YtjemadbhpbbhlaaClone
namespace Go.Proofs.Ytjemadbhpbbhlaa
open Go.RowKit

set_option linter.unusedVariables false
set_option linter.unusedSimpArgs false
set_option maxRecDepth 100000

def cpPad (ops : List IrOp) (k : Nat) : List Int := (cpTo ops k).names ++ List.replicate (ops.length - k) 0
theorem cpPad_length (ops : List IrOp) (k : Nat) (h : k ≤ ops.length) : (cpPad ops k).length = ops.length := by simp [cpPad, cpTo_names ops k h]; omega
theorem cpPad_set (ops : List IrOp) (k : Nat) (h : k < ops.length) (a : Int) (s : CpS) (hc : cpTo ops (k + 1) = s) (hs : s.names = (cpTo ops k).names ++ [a]) : (cpPad ops k).set k a = cpPad ops (k + 1) := by
  obtain ⟨d, hd⟩ : ∃ d, ops.length - k = d + 1 := ⟨ops.length - k - 1, by omega⟩
  have hn := cpTo_names ops k (by omega)
  unfold cpPad
  rw [hc, hs, hd, show ops.length - (k + 1) = d by omega, List.replicate_succ, List.set_append_right _ _ (by omega), hn, Nat.sub_self, List.set_cons_zero, List.append_assoc]
  rfl
theorem cpPad_all (ops : List IrOp) : cpPad ops ops.length = (cpTo ops ops.length).names := by simp [cpPad]
theorem cpPad_at (ops : List IrOp) (k : Nat) (h : k < ops.length) (a x : Int) (h0 : 0 ≤ x) (h1 : x < (k : Int)) (hl : x.toNat < ((cpPad ops k).set k a).length) : ((cpPad ops k).set k a)[x.toNat] = gI (cpTo ops k).names x := by
  have hn := cpTo_names ops k (by omega)
  have hq : ((cpPad ops k).set k a)[x.toNat]? = (cpTo ops k).names[x.toNat]? := by
    rw [List.getElem?_set_ne (by omega)]
    unfold cpPad
    rw [List.getElem?_append_left (by omega)]
  unfold gI
  rw [← hq, List.getElem?_eq_getElem hl]
  rfl
theorem gI_in (l : List Int) (x : Int) (h : x.toNat < l.length) : l[x.toNat] = gI l x := by
  unfold gI
  rw [List.getElem?_eq_getElem h]; rfl
theorem cp_old (ops : List IrOp) (k : Nat) (h : k < ops.length) (hk : ops[k].kind = 2) (hl : 0 ≤ gI (cpTo ops k).last ops[k].k) : cpTo ops (k + 1) = ⟨(cpTo ops k).names ++ [gI (cpTo ops k).last ops[k].k], (cpTo ops k).last⟩ := by
  rw [cpTo_succ ops k h, cpStep, if_pos hk, if_pos hl]
theorem cp_new (ops : List IrOp) (k : Nat) (h : k < ops.length) (hk : ops[k].kind = 2) (hl : ¬ 0 ≤ gI (cpTo ops k).last ops[k].k) : cpTo ops (k + 1) = ⟨(cpTo ops k).names ++ [(k : Int)], (cpTo ops k).last.set ops[k].k.toNat (k : Int)⟩ := by
  rw [cpTo_succ ops k h, cpStep, if_pos hk, if_neg hl, cpTo_names ops k (by omega)]
theorem cp_put (ops : List IrOp) (k : Nat) (h : k < ops.length) (hk : ops[k].kind = 8) : cpTo ops (k + 1) = ⟨(cpTo ops k).names ++ [(k : Int)], (cpTo ops k).last.set ops[k].k.toNat (gI (cpTo ops k).names ops[k].x)⟩ := by
  rw [cpTo_succ ops k h, cpStep, if_neg (by omega), if_pos hk, cpTo_names ops k (by omega)]
theorem cp_no (ops : List IrOp) (k : Nat) (h : k < ops.length) (h2 : ops[k].kind ≠ 2) (h8 : ops[k].kind ≠ 8) : cpTo ops (k + 1) = ⟨(cpTo ops k).names ++ [(k : Int)], (cpTo ops k).last⟩ := by
  rw [cpTo_succ ops k h, cpStep, if_neg h2, if_neg h8, cpTo_names ops k (by omega)]
theorem optCopy_eq {b : IrBlock} (h : irOkB b = true) : optCopy b = renEnd (cpTo b.ops b.ops.length).names b (b.ops.map (ren (cpTo b.ops b.ops.length).names)) := by unfold optCopy; rw [if_pos h]
theorem lastm : ∀ (i : Nat) (a : Int) (u : Value), ([-1, -1, -1, -1] : List Int)[i]? = some a → (#[.int .i64 (-1), .int .i64 (-1), .int .i64 (-1), .int .i64 (-1)] : Array Value)[i]? = some u → ∀ w : World, Rep.rep w (fun _ => False) [u] a := by
  intro i a u ha hu w
  have hi := (List.getElem?_eq_some_iff.1 ha).1
  have h4 : i = 0 ∨ i = 1 ∨ i = 2 ∨ i = 3 := by simp at hi; omega
  rcases h4 with rfl | rfl | rfl | rfl <;> (simp at ha hu; subst ha hu; exact ⟨rfl, fits_small (by omega) (by omega)⟩)

set_option maxHeartbeats 16000000 in
theorem implOptCopy_any (b : IrBlock) (vb1 : Value) (w : World) (hb1 : Sl w (Old w) vb1 b.ops) (hkb : b.Ok) :
    Calls Try.prog 46 #[.agg #[.int .i64 b.pc, .int .i64 b.len, vb1, .int .i64 b.fin, .int .i64 b.x, .int .i64 b.y, .int .i64 b.k]] w fun e w' => ∃ r1 F, e = .returned (.agg #[.int .i64 ((optCopy b).pc), .int .i64 ((optCopy b).len), r1, .int .i64 ((optCopy b).fin), .int .i64 ((optCopy b).x), .int .i64 ((optCopy b).y), .int .i64 ((optCopy b).k)]) ∧ OwnSl w' r1 (optCopy b).ops F ∧ Fr w w' F ∧ Ext w w' := by
  obtain ⟨Ab1, cb1, rfl, hlb1, hmb1⟩ := hb1.form
  go_enter Try.func46, Try.ntmps46
  go_wp2_with fail
  have he0 : Ext w ((w.alloc (Obj.cells #[.int .i64 b.pc, .int .i64 b.len, (.slice Ab1 b.ops.length cb1), .int .i64 b.fin, .int .i64 b.x, .int .i64 b.y, .int .i64 b.k] 30)).alloc (Obj.cells #[.int .i64 0, .int .i64 0, .slice none 0 0, .int .i64 0, .int .i64 0, .int .i64 0, .int .i64 0] 30)) := (Ext.auto)
  have hs0 : w.heap.size + 2 ≤ (((w.alloc (Obj.cells #[.int .i64 b.pc, .int .i64 b.len, (.slice Ab1 b.ops.length cb1), .int .i64 b.fin, .int .i64 b.x, .int .i64 b.y, .int .i64 b.k] 30)).alloc (Obj.cells #[.int .i64 0, .int .i64 0, .slice none 0 0, .int .i64 0, .int .i64 0, .int .i64 0, .int .i64 0] 30))).heap.size := by simp
  have hq0 := hide (show (((w.alloc (Obj.cells #[.int .i64 b.pc, .int .i64 b.len, (.slice Ab1 b.ops.length cb1), .int .i64 b.fin, .int .i64 b.x, .int .i64 b.y, .int .i64 b.k] 30)).alloc (Obj.cells #[.int .i64 0, .int .i64 0, .slice none 0 0, .int .i64 0, .int .i64 0, .int .i64 0, .int .i64 0] 30))).heap.size = w.heap.size + 2 by simp)
  have hBb_0 : Bx ((w.alloc (Obj.cells #[.int .i64 b.pc, .int .i64 b.len, (.slice Ab1 b.ops.length cb1), .int .i64 b.fin, .int .i64 b.x, .int .i64 b.y, .int .i64 b.k] 30)).alloc (Obj.cells #[.int .i64 0, .int .i64 0, .slice none 0 0, .int .i64 0, .int .i64 0, .int .i64 0, .int .i64 0] 30)) (w.heap.size) [.int .i64 b.pc, .int .i64 b.len, (.slice Ab1 b.ops.length cb1), .int .i64 b.fin, .int .i64 b.x, .int .i64 b.y, .int .i64 b.k] := (by have := (Bx.alloc (Bx.new w #[.int .i64 b.pc, .int .i64 b.len, (.slice Ab1 b.ops.length cb1), .int .i64 b.fin, .int .i64 b.x, .int .i64 b.y, .int .i64 b.k] 30) (by simp) #[.int .i64 0, .int .i64 0, .slice none 0 0, .int .i64 0, .int .i64 0, .int .i64 0, .int .i64 0] 30); simpa using this)
  have hFb_0 : ∀ oo, (((w.alloc (Obj.cells #[.int .i64 b.pc, .int .i64 b.len, (.slice Ab1 b.ops.length cb1), .int .i64 b.fin, .int .i64 b.x, .int .i64 b.y, .int .i64 b.k] 30)).alloc (Obj.cells #[.int .i64 0, .int .i64 0, .slice none 0 0, .int .i64 0, .int .i64 0, .int .i64 0, .int .i64 0] 30))).frozen? ⟨w.heap.size, oo, none⟩ = false := fun oo => by simp
  have hBres_0 : Bx ((w.alloc (Obj.cells #[.int .i64 b.pc, .int .i64 b.len, (.slice Ab1 b.ops.length cb1), .int .i64 b.fin, .int .i64 b.x, .int .i64 b.y, .int .i64 b.k] 30)).alloc (Obj.cells #[.int .i64 0, .int .i64 0, .slice none 0 0, .int .i64 0, .int .i64 0, .int .i64 0, .int .i64 0] 30)) (w.heap.size + 1) [.int .i64 0, .int .i64 0, .slice none 0 0, .int .i64 0, .int .i64 0, .int .i64 0, .int .i64 0] := (by have := (Bx.new (w.alloc (Obj.cells #[.int .i64 b.pc, .int .i64 b.len, (.slice Ab1 b.ops.length cb1), .int .i64 b.fin, .int .i64 b.x, .int .i64 b.y, .int .i64 b.k] 30)) #[.int .i64 0, .int .i64 0, .slice none 0 0, .int .i64 0, .int .i64 0, .int .i64 0, .int .i64 0] 30); simpa using this)
  have hFres_0 : ∀ oo, (((w.alloc (Obj.cells #[.int .i64 b.pc, .int .i64 b.len, (.slice Ab1 b.ops.length cb1), .int .i64 b.fin, .int .i64 b.x, .int .i64 b.y, .int .i64 b.k] 30)).alloc (Obj.cells #[.int .i64 0, .int .i64 0, .slice none 0 0, .int .i64 0, .int .i64 0, .int .i64 0, .int .i64 0] 30))).frozen? ⟨w.heap.size + 1, oo, none⟩ = false := fun oo => by simp
  generalize ((w.alloc (Obj.cells #[.int .i64 b.pc, .int .i64 b.len, (.slice Ab1 b.ops.length cb1), .int .i64 b.fin, .int .i64 b.x, .int .i64 b.y, .int .i64 b.k] 30)).alloc (Obj.cells #[.int .i64 0, .int .i64 0, .slice none 0 0, .int .i64 0, .int .i64 0, .int .i64 0, .int .i64 0] 30)) = w0 at *
  refine (implIrOk_any b _ _ (hb1.ext he0) hkb).mono ?_
  rintro e w1 ⟨rfl, hy⟩
  have hx1 : Ext w0 w1 := Ext.trans (Ext.auto) hy
  have hs1 := hx1.size
  have he1 : Ext w w1 := he0.trans hx1
  have hBb_1 : Bx w1 (w.heap.size) [.int .i64 b.pc, .int .i64 b.len, (.slice Ab1 b.ops.length cb1), .int .i64 b.fin, .int .i64 b.x, .int .i64 b.y, .int .i64 b.k] := hx1.bx hBb_0 (by omega)
  have hFb_1 : ∀ oo, w1.frozen? ⟨w.heap.size, oo, none⟩ = false := fun oo => (hx1.frozen (by omega)).trans (hFb_0 oo)
  have hBres_1 : Bx w1 (w.heap.size + 1) [.int .i64 0, .int .i64 0, .slice none 0 0, .int .i64 0, .int .i64 0, .int .i64 0, .int .i64 0] := hx1.bx hBres_0 (by omega)
  have hFres_1 : ∀ oo, w1.frozen? ⟨w.heap.size + 1, oo, none⟩ = false := fun oo => (hx1.frozen (by omega)).trans (hFres_0 oo)
  clear hBb_0 hFb_0 hBres_0 hFres_0
  clear hy
  cases hok : irOkB b
  · 
    have HNO := hide (optCopy_no hok)
    clear hok
    have yres : w.heap.size + 1 < w1.heap.size := by omega
    have xres0 := hBres_1 0 _ rfl
    have xres1 := hBres_1 1 _ rfl
    have xres2 := hBres_1 2 _ rfl
    have xres3 := hBres_1 3 _ rfl
    have xres4 := hBres_1 4 _ rfl
    have xres5 := hBres_1 5 _ rfl
    have xres6 := hBres_1 6 _ rfl
    have fres := hFres_1
    go_wp2
    first
    | refine bodyPost_ret (v := .agg #[.int .i64 0, .int .i64 0, .slice none 0 0, .int .i64 0, .int .i64 0, .int .i64 0, .int .i64 0]) (by simp [results, Try.results46, go_sem, xres0, xres1, xres2, xres3, xres4, xres5, xres6, yres]) rfl ⟨.slice none 0 0, [], by rw [HNO.out]; rfl, by rw [HNO.out]; exact OwnSl.nil _, Fr.nil _ _, (Ext.hold he1)⟩
    | refine bodyPost_ret (v := .agg #[.int .i64 0, .int .i64 0, .slice none 0 0, .int .i64 0, .int .i64 0, .int .i64 0, .int .i64 0]) (by simp [results, Try.results46, go_sem, xres0, xres1, xres2, xres3, xres4, xres5, xres6, yres]) rfl ⟨.slice none 0 0, by rw [HNO.out]; rfl, [], by rw [HNO.out]; exact OwnSl.nil _, Fr.nil _ _, (Ext.hold he1)⟩
  have HOK := hide hok
  clear hok
  have hn48 := ok_n HOK.out
  unfold maxLen at hmb1
  obtain ⟨i_m, hi_m, hz0_m, hz1_m, hz2_m⟩ := info_parts infzInt
  have hmk_m : ∀ w : World, (Instr.makeSlice 63 (.int .i64 (b.ops.length : Int)) (.int .i64 (b.ops.length : Int))).run Try.prog w = .ok (.slice (some ⟨w.heap.size, 0, none⟩) b.ops.length b.ops.length) (w.alloc (.cells (madeCells (Value.int .i64 0).cells (b.ops.length * i_m.size)) 3)) :=
    fun w => run_make_rowN 63 3 i_m _ Try.underlying63 hi_m hz0_m _ _ (b.ops.length) (b.ops.length) (Nat.le_refl _) (by rw [hz2_m]; omega) (by omega) w
  have HM_m := hide (show b.ops.length * i_m.size = b.ops.length by rw [show i_m.size = 1 from hz1_m]; try omega)
  clear hi_m hz0_m hz1_m hz2_m
  have yb : w.heap.size < w1.heap.size := by omega
  have xb0 := hBb_1 0 _ rfl
  have xb1 := hBb_1 1 _ rfl
  have xb2 := hBb_1 2 _ rfl
  have xb3 := hBb_1 3 _ rfl
  have xb4 := hBb_1 4 _ rfl
  have xb5 := hBb_1 5 _ rfl
  have xb6 := hBb_1 6 _ rfl
  go_wp2_with fail
  clear xb0 xb1 xb2 xb3 xb4 xb5 xb6 yb
  have he2 : Ext w ((w1.alloc (.cells (madeCells #[Value.int .i64 0] (b.ops.length * i_m.size)) 3)).alloc (.cells #[.int .i64 (-1), .int .i64 (-1), .int .i64 (-1), .int .i64 (-1)] 3)) := (Ext.hold he1)
  have hs2 : w1.heap.size + 2 ≤ (((w1.alloc (.cells (madeCells #[Value.int .i64 0] (b.ops.length * i_m.size)) 3)).alloc (.cells #[.int .i64 (-1), .int .i64 (-1), .int .i64 (-1), .int .i64 (-1)] 3))).heap.size := by simp
  have hq2 := hide (show (((w1.alloc (.cells (madeCells #[Value.int .i64 0] (b.ops.length * i_m.size)) 3)).alloc (.cells #[.int .i64 (-1), .int .i64 (-1), .int .i64 (-1), .int .i64 (-1)] 3))).heap.size = w1.heap.size + 2 by simp)
  have hBb_2 : Bx (((w1.alloc (.cells (madeCells #[Value.int .i64 0] (b.ops.length * i_m.size)) 3)).alloc (.cells #[.int .i64 (-1), .int .i64 (-1), .int .i64 (-1), .int .i64 (-1)] 3))) (w.heap.size) [.int .i64 b.pc, .int .i64 b.len, (.slice Ab1 b.ops.length cb1), .int .i64 b.fin, .int .i64 b.x, .int .i64 b.y, .int .i64 b.k] := Bx.hold hBb_1
  have hFb_2 : ∀ oo, (((w1.alloc (.cells (madeCells #[Value.int .i64 0] (b.ops.length * i_m.size)) 3)).alloc (.cells #[.int .i64 (-1), .int .i64 (-1), .int .i64 (-1), .int .i64 (-1)] 3))).frozen? ⟨w.heap.size, oo, none⟩ = false := (fz_hold hFb_1)
  have hBres_2 : Bx (((w1.alloc (.cells (madeCells #[Value.int .i64 0] (b.ops.length * i_m.size)) 3)).alloc (.cells #[.int .i64 (-1), .int .i64 (-1), .int .i64 (-1), .int .i64 (-1)] 3))) (w.heap.size + 1) [.int .i64 0, .int .i64 0, .slice none 0 0, .int .i64 0, .int .i64 0, .int .i64 0, .int .i64 0] := Bx.hold hBres_1
  have hFres_2 : ∀ oo, (((w1.alloc (.cells (madeCells #[Value.int .i64 0] (b.ops.length * i_m.size)) 3)).alloc (.cells #[.int .i64 (-1), .int .i64 (-1), .int .i64 (-1), .int .i64 (-1)] 3))).frozen? ⟨w.heap.size + 1, oo, none⟩ = false := (fz_hold hFres_1)
  have hRnm_2 : FRow (((w1.alloc (.cells (madeCells #[Value.int .i64 0] (b.ops.length * i_m.size)) 3)).alloc (.cells #[.int .i64 (-1), .int .i64 (-1), .int .i64 (-1), .int .i64 (-1)] 3))) (w1.heap.size) 0 (List.replicate b.ops.length (0 : Int)) := ((FRow.make (α := Int) w1 (Value.int .i64 0) 3 (b.ops.length) (0 : Int) rfl ⟨rfl, fits_small (by omega) (by omega)⟩ HM_m.out).alloc (.cells #[.int .i64 (-1), .int .i64 (-1), .int .i64 (-1), .int .i64 (-1)] 3))
  have hRla_2 : FRow (((w1.alloc (.cells (madeCells #[Value.int .i64 0] (b.ops.length * i_m.size)) 3)).alloc (.cells #[.int .i64 (-1), .int .i64 (-1), .int .i64 (-1), .int .i64 (-1)] 3))) (w1.heap.size + 1) 0 ([-1, -1, -1, -1]) := (FRow.built (w1.alloc (.cells (madeCells #[Value.int .i64 0] (b.ops.length * i_m.size)) 3)) 3 #[.int .i64 (-1), .int .i64 (-1), .int .i64 (-1), .int .i64 (-1)] ([-1, -1, -1, -1] : List Int) rfl rfl (fun i a u ha hu => lastm i a u ha hu _) (by simp))
  generalize ((w1.alloc (.cells (madeCells #[Value.int .i64 0] (b.ops.length * i_m.size)) 3)).alloc (.cells #[.int .i64 (-1), .int .i64 (-1), .int .i64 (-1), .int .i64 (-1)] 3)) = w2 at *
  clear hBb_1 hFb_1 hBres_1 hFres_1
  clear hmk_m
  go_loopw [20] (fun i w3 => ∃ (k : Nat), k ≤ b.ops.length ∧ i = .int .i64 (k : Int) ∧ Ext w w3 ∧ w2.heap.size ≤ w3.heap.size ∧ Bx w3 (w.heap.size) [.int .i64 b.pc, .int .i64 b.len, (.slice Ab1 b.ops.length cb1), .int .i64 b.fin, .int .i64 b.x, .int .i64 b.y, .int .i64 b.k] ∧ (∀ oo, w3.frozen? ⟨w.heap.size, oo, none⟩ = false) ∧ Bx w3 (w.heap.size + 1) [.int .i64 0, .int .i64 0, .slice none 0 0, .int .i64 0, .int .i64 0, .int .i64 0, .int .i64 0] ∧ (∀ oo, w3.frozen? ⟨w.heap.size + 1, oo, none⟩ = false) ∧ FRow w3 (w1.heap.size) 0 (cpPad b.ops k) ∧ FRow w3 (w1.heap.size + 1) 0 ((cpTo b.ops k).last)) (fun i _ => b.ops.length - (intOf i).toNat)
  case atStart => exact ⟨0, Nat.zero_le _, rfl, he2, Nat.le_refl _, hBb_2, hFb_2, hBres_2, hFres_2, by simpa [cpPad, cpTo] using hRnm_2, by simpa [cpTo] using hRla_2⟩
  case round =>
    obtain ⟨w3, hwr⟩ : ∃ w3 : World, w3 = wr := ⟨_, rfl⟩
    subst hwr
    obtain ⟨k, hk, rfl, he3, hs3, hBb_3, hFb_3, hBres_3, hFres_3, hRnm_3, hRla_3⟩ := hrel
    by_cases hlt : k < b.ops.length
    · 
      have z0 : (0 : Int) ≤ (k : Int) := by omega
      have z1 : (k : Int) < (b.ops.length : Int) := by omega
      have hinK : k < (cpPad b.ops k).length := by rw [cpPad_length _ _ (by omega)]; exact hlt
      have HLK := hide (cpPad_length b.ops k hk)
      have HLA := hide (cpTo_last b.ops k hk)
      obtain ⟨bb, off, rfl, hbo, hk0, d0, d1, d2, d3, d4⟩ := at_IrOp hb1 hlt
      have hbl : bb < w.heap.size := hbo
      have hbl1 : bb < w3.heap.size := by omega
      have e0 := (he3.cell hbl).trans d0
      have e1 := (he3.cell hbl).trans d1
      have e2 := (he3.cell hbl).trans d2
      have e3 := (he3.cell hbl).trans d3
      have e4 := (he3.cell hbl).trans d4
      clear d0 d1 d2 d3 d4
      have KD := op_kind (ok_ops HOK.out k hlt)
      have HKR := hide (fun q => op_r (ok_ops HOK.out k hlt) q)
      have HBX := hide (ok_below HOK.out k hlt).1
      have HKP := hide (cpPad_set b.ops k hlt)
      have yb : w.heap.size < w3.heap.size := by omega
      have xb0 := hBb_3 0 _ rfl
      have xb1 := hBb_3 1 _ rfl
      have xb2 := hBb_3 2 _ rfl
      have xb3 := hBb_3 3 _ rfl
      have xb4 := hBb_3 4 _ rfl
      have xb5 := hBb_3 5 _ rfl
      have xb6 := hBb_3 6 _ rfl
      have gc := hRnm_3.int0 (i := k) (hinK)
      have zgc := hRnm_3.fz
      have ygc : w1.heap.size < w3.heap.size := hRnm_3.lt
      go_upto_region 9 with fail
      clear xb0 xb1 xb2 xb3 xb4 xb5 xb6 yb
      clear gc zgc ygc
      have he4 : Ext w ((w3.setCell ⟨w1.heap.size, k, none⟩ (.int .i64 (k : Int))).alloc (Obj.cells #[.int .i64 (b.ops[k].kind), .int .i64 (b.ops[k].x), .int .i64 (b.ops[k].y), .int .i64 (b.ops[k].k), .int .i64 (b.ops[k].at_)] 92)) := (Ext.hold he3)
      have hs4 : w3.heap.size + 1 ≤ (((w3.setCell ⟨w1.heap.size, k, none⟩ (.int .i64 (k : Int))).alloc (Obj.cells #[.int .i64 (b.ops[k].kind), .int .i64 (b.ops[k].x), .int .i64 (b.ops[k].y), .int .i64 (b.ops[k].k), .int .i64 (b.ops[k].at_)] 92))).heap.size := by simp
      have hq4 := hide (show (((w3.setCell ⟨w1.heap.size, k, none⟩ (.int .i64 (k : Int))).alloc (Obj.cells #[.int .i64 (b.ops[k].kind), .int .i64 (b.ops[k].x), .int .i64 (b.ops[k].y), .int .i64 (b.ops[k].k), .int .i64 (b.ops[k].at_)] 92))).heap.size = w3.heap.size + 1 by simp)
      have hltnm_4 : w1.heap.size < w3.heap.size := hRnm_3.lt
      have hltla_4 : w1.heap.size + 1 < w3.heap.size := hRla_3.lt
      have hBb_4 : Bx (((w3.setCell ⟨w1.heap.size, k, none⟩ (.int .i64 (k : Int))).alloc (Obj.cells #[.int .i64 (b.ops[k].kind), .int .i64 (b.ops[k].x), .int .i64 (b.ops[k].y), .int .i64 (b.ops[k].k), .int .i64 (b.ops[k].at_)] 92))) (w.heap.size) [.int .i64 b.pc, .int .i64 b.len, (.slice (some ⟨bb, off, none⟩) b.ops.length cb1), .int .i64 b.fin, .int .i64 b.x, .int .i64 b.y, .int .i64 b.k] := Bx.hold hBb_3
      have hFb_4 : ∀ oo, (((w3.setCell ⟨w1.heap.size, k, none⟩ (.int .i64 (k : Int))).alloc (Obj.cells #[.int .i64 (b.ops[k].kind), .int .i64 (b.ops[k].x), .int .i64 (b.ops[k].y), .int .i64 (b.ops[k].k), .int .i64 (b.ops[k].at_)] 92))).frozen? ⟨w.heap.size, oo, none⟩ = false := (fz_hold hFb_3)
      have hBres_4 : Bx (((w3.setCell ⟨w1.heap.size, k, none⟩ (.int .i64 (k : Int))).alloc (Obj.cells #[.int .i64 (b.ops[k].kind), .int .i64 (b.ops[k].x), .int .i64 (b.ops[k].y), .int .i64 (b.ops[k].k), .int .i64 (b.ops[k].at_)] 92))) (w.heap.size + 1) [.int .i64 0, .int .i64 0, .slice none 0 0, .int .i64 0, .int .i64 0, .int .i64 0, .int .i64 0] := Bx.hold hBres_3
      have hFres_4 : ∀ oo, (((w3.setCell ⟨w1.heap.size, k, none⟩ (.int .i64 (k : Int))).alloc (Obj.cells #[.int .i64 (b.ops[k].kind), .int .i64 (b.ops[k].x), .int .i64 (b.ops[k].y), .int .i64 (b.ops[k].k), .int .i64 (b.ops[k].at_)] 92))).frozen? ⟨w.heap.size + 1, oo, none⟩ = false := (fz_hold hFres_3)
      have hRla_4 : FRow (((w3.setCell ⟨w1.heap.size, k, none⟩ (.int .i64 (k : Int))).alloc (Obj.cells #[.int .i64 (b.ops[k].kind), .int .i64 (b.ops[k].x), .int .i64 (b.ops[k].y), .int .i64 (b.ops[k].k), .int .i64 (b.ops[k].at_)] 92))) (w1.heap.size + 1) 0 ((cpTo b.ops k).last) := FRow.hold hRla_3
      have hRnm_4 : FRow (((w3.setCell ⟨w1.heap.size, k, none⟩ (.int .i64 (k : Int))).alloc (Obj.cells #[.int .i64 (b.ops[k].kind), .int .i64 (b.ops[k].x), .int .i64 (b.ops[k].y), .int .i64 (b.ops[k].k), .int .i64 (b.ops[k].at_)] 92))) (w1.heap.size) 0 ((cpPad b.ops k).set k (k : Int)) := ((hRnm_3.setInt0 hinK (k : Int) (fits_small (by omega) (by omega))).alloc _)
      have hBo_4 : Bx (((w3.setCell ⟨w1.heap.size, k, none⟩ (.int .i64 (k : Int))).alloc (Obj.cells #[.int .i64 (b.ops[k].kind), .int .i64 (b.ops[k].x), .int .i64 (b.ops[k].y), .int .i64 (b.ops[k].k), .int .i64 (b.ops[k].at_)] 92))) (w3.heap.size) [.int .i64 (b.ops[k].kind), .int .i64 (b.ops[k].x), .int .i64 (b.ops[k].y), .int .i64 (b.ops[k].k), .int .i64 (b.ops[k].at_)] := (by have := Bx.new (w3.setCell ⟨w1.heap.size, k, none⟩ (.int .i64 (k : Int))) #[.int .i64 (b.ops[k].kind), .int .i64 (b.ops[k].x), .int .i64 (b.ops[k].y), .int .i64 (b.ops[k].k), .int .i64 (b.ops[k].at_)] 92; simpa using this)
      have hFo_4 : ∀ oo, (((w3.setCell ⟨w1.heap.size, k, none⟩ (.int .i64 (k : Int))).alloc (Obj.cells #[.int .i64 (b.ops[k].kind), .int .i64 (b.ops[k].x), .int .i64 (b.ops[k].y), .int .i64 (b.ops[k].k), .int .i64 (b.ops[k].at_)] 92))).frozen? ⟨w3.heap.size, oo, none⟩ = false := by first | (exact fz_new _ _ _ (by first | rfl | simp)) | (intro oo; simp)
      generalize ((w3.setCell ⟨w1.heap.size, k, none⟩ (.int .i64 (k : Int))).alloc (Obj.cells #[.int .i64 (b.ops[k].kind), .int .i64 (b.ops[k].x), .int .i64 (b.ops[k].y), .int .i64 (b.ops[k].k), .int .i64 (b.ops[k].at_)] 92)) = w4 at *
      clear hBb_3 hFb_3 hBres_3 hFres_3 hRnm_3 hRla_3
      clear e0 e1 e2 e3 e4 hbo hbl
      by_cases k2 : b.ops[k].kind = 2
      · 
        have hr := HKR.out (by simp [k2])
        have hr0 := hr.1
        have hr1 := hr.2
        have hinA : (b.ops[k].k).toNat < (cpTo b.ops k).last.length := by rw [HLA.out]; omega
        clear hr
        have q2 : (b.ops[k].kind == 2) = true := by simp [k2]
        have HG := hide (gI_in (cpTo b.ops k).last b.ops[k].k hinA)
        have hinK2 : k < ((cpPad b.ops k).set k (k : Int)).length := by rw [List.length_set]; exact hinK
        have ga := hRla_4.int0 (i := (b.ops[k].k).toNat) (hinA)
        have zga := hRla_4.fz
        have yga : w1.heap.size + 1 < w4.heap.size := hRla_4.lt
        have gk := hRnm_4.int0 (i := k) (hinK2)
        have zgk := hRnm_4.fz
        have ygk : w1.heap.size < w4.heap.size := hRnm_4.lt
        by_cases hge : (0 : Int) ≤ (cpTo b.ops k).last[(b.ops[k].k).toNat]
        · 
          have HC := hide (cp_old b.ops k hlt k2 (by rw [← HG.out]; exact hge))
          clear k2
          have hge2 : decide ((0 : Int) ≤ (cpTo b.ops k).last[(b.ops[k].k).toNat]) = true := decide_eq_true hge
          have yo : w3.heap.size < w4.heap.size := by omega
          have xo0 := hBo_4 0 _ rfl
          have xo1 := hBo_4 1 _ rfl
          have xo2 := hBo_4 2 _ rfl
          have xo3 := hBo_4 3 _ rfl
          have xo4 := hBo_4 4 _ rfl
          go_wp2_with fail
          go_roundw
          case rel => exact ⟨k + 1, by omega, by go_num, (Ext.hold he4), (by first | omega | (simp; omega)), (Bx.hold hBb_4), (fz_hold hFb_4), (Bx.hold hBres_4), (fz_hold hFres_4), (by have q := HKP.out _ _ HC.out rfl; rw [← q, ← HG.out]; have q2 := hRnm_4.setInt0 hinK2 _ (hRla_4.intfit hinA); rw [List.set_set] at q2; exact q2), (by rw [HC.out]; exact (FRow.hold hRla_4))⟩
          case measure => (simp [intOf]; try omega)
        · 
          have HC := hide (cp_new b.ops k hlt k2 (by rw [← HG.out]; exact hge))
          clear k2
          have hge2 : decide ((0 : Int) ≤ (cpTo b.ops k).last[(b.ops[k].k).toNat]) = false := decide_eq_false hge
          have yo : w3.heap.size < w4.heap.size := by omega
          have xo0 := hBo_4 0 _ rfl
          have xo1 := hBo_4 1 _ rfl
          have xo2 := hBo_4 2 _ rfl
          have xo3 := hBo_4 3 _ rfl
          have xo4 := hBo_4 4 _ rfl
          go_wp2_with fail
          go_roundw
          case rel => exact ⟨k + 1, by omega, by go_num, (Ext.hold he4), (by first | omega | (simp; omega)), (Bx.hold hBb_4), (fz_hold hFb_4), (Bx.hold hBres_4), (fz_hold hFres_4), (by have q := HKP.out _ _ HC.out rfl; rw [← q]; exact (FRow.hold hRnm_4)), (by rw [HC.out]; exact hRla_4.setInt0 hinA _ (fits_small (by omega) (by omega)))⟩
          case measure => (simp [intOf]; try omega)
      · 
        have q2 : (b.ops[k].kind == 2) = false := by simp [k2]
        by_cases k8 : b.ops[k].kind = 8
        · 
          have hr := HKR.out (by simp [k8])
          have hr0 := hr.1
          have hr1 := hr.2
          have hinA : (b.ops[k].k).toNat < (cpTo b.ops k).last.length := by rw [HLA.out]; omega
          clear hr
          have q8 : (b.ops[k].kind == 8) = true := by simp [k8]
          have hbx := HBX.out (by rw [k8]; rfl)
          have hbx0 := hbx.1
          have hbx1 := hbx.2
          have hbx2 : b.ops[k].x < (b.ops.length : Int) := by omega
          have hinX : (b.ops[k].x).toNat < ((cpPad b.ops k).set k (k : Int)).length := by rw [List.length_set, HLK.out]; omega
          have HG := hide (cpPad_at b.ops k hlt (k : Int) b.ops[k].x hbx0 hbx1 hinX)
          have HC := hide (cp_put b.ops k hlt k8)
          clear k2 k8 hbx
          have ga := hRla_4.int0 (i := (b.ops[k].k).toNat) (hinA)
          have zga := hRla_4.fz
          have yga : w1.heap.size + 1 < w4.heap.size := hRla_4.lt
          have gk := hRnm_4.int0 (i := (b.ops[k].x).toNat) (hinX)
          have zgk := hRnm_4.fz
          have ygk : w1.heap.size < w4.heap.size := hRnm_4.lt
          have yo : w3.heap.size < w4.heap.size := by omega
          have xo0 := hBo_4 0 _ rfl
          have xo1 := hBo_4 1 _ rfl
          have xo2 := hBo_4 2 _ rfl
          have xo3 := hBo_4 3 _ rfl
          have xo4 := hBo_4 4 _ rfl
          go_upto_region 14 with fail
          have hS : ∀ w', Ext w4 w' → ∀ bb oo, bb < w4.heap.size → w'.cell? ⟨bb, oo, none⟩ = w4.cell? ⟨bb, oo, none⟩ := fun w' hx bb oo hb => hx.cell hb
          refine wp_region_plan (fun w' => Ext w4 w') 8 (.float 0 (.float 1 (.float 2 (.float 3 (.float 4 (.float 5 (.float 6 (.float 7 (.tail 8))))))))) (by kernel_rfl) (by kernel_rfl) (Ext.refl _).drew ?_
          iterate 8 ((refine Plan.float_step (v := ?_) rfl (by rfl) (fun _ _ _ h => h) (fun w' hSw => ?_) ?_; rotate_left; · (go_simp; try with_reducible rfl)); (try simp only [Act.put, List.setIfInBounds_toArray, List.set_cons_zero, List.set_cons_succ]))
          refine Plan.tail_step ?_
          simp only [List.drop_succ_cons, List.drop_zero]
          clear hS
          go_wp2_with fail
          go_roundw
          case rel => exact ⟨k + 1, by omega, by go_num, (Ext.hold he4), (by first | omega | (simp; omega)), (Bx.hold hBb_4), (fz_hold hFb_4), (Bx.hold hBres_4), (fz_hold hFres_4), (by have q := HKP.out _ _ HC.out rfl; rw [← q]; exact (FRow.hold hRnm_4)), (by rw [HC.out, ← HG.out]; exact hRla_4.drew.setInt0 hinA _ (hRnm_4.intfit hinX))⟩
          case measure => (simp [intOf]; try omega)
        · 
          have q8 : (b.ops[k].kind == 8) = false := by simp [k8]
          have HC := hide (cp_no b.ops k hlt k2 k8)
          clear k2 k8
          have yo : w3.heap.size < w4.heap.size := by omega
          have xo0 := hBo_4 0 _ rfl
          have xo1 := hBo_4 1 _ rfl
          have xo2 := hBo_4 2 _ rfl
          have xo3 := hBo_4 3 _ rfl
          have xo4 := hBo_4 4 _ rfl
          go_wp2_with fail
          go_roundw
          case rel => exact ⟨k + 1, by omega, by go_num, (Ext.hold he4), (by first | omega | (simp; omega)), (Bx.hold hBb_4), (fz_hold hFb_4), (Bx.hold hBres_4), (fz_hold hFres_4), (by have q := HKP.out _ _ HC.out rfl; rw [← q]; exact (FRow.hold hRnm_4)), (by rw [HC.out]; exact (FRow.hold hRla_4))⟩
          case measure => (simp [intOf]; try omega)
    · 
      obtain rfl : k = b.ops.length := by omega
      rw [cpPad_all] at hRnm_3
      clear hRla_3
      have hN := cpTo_names b.ops b.ops.length (Nat.le_refl _)
      have hDB := optCopy_eq HOK.out
      generalize (cpTo b.ops b.ops.length).names = N at *
      have hX := fun q => end_x (ok_end HOK.out) q
      have hY := fun q => end_y (ok_end HOK.out) q
      have hOB : ∀ o, o ∈ b.ops → Below' b.ops.length o := fun o ho => by
        obtain ⟨i, hi, rfl⟩ := List.getElem_of_mem ho
        exact (ok_below HOK.out i hi).mono (by omega)
      have hKD : ∀ o, o ∈ b.ops → 1 ≤ o.kind ∧ o.kind ≤ 8 := fun o ho => by
        obtain ⟨i, hi, rfl⟩ := List.getElem_of_mem ho
        exact op_kind (ok_ops HOK.out i hi)
      rw [← hN] at hX hY hOB
      have HNL := hide hN
      have HDB := hide hDB
      have hln : w1.heap.size < w3.heap.size := hRnm_3.lt
      clear hN hDB
      have yb : w.heap.size < w3.heap.size := by omega
      have xb0 := hBb_3 0 _ rfl
      have xb1 := hBb_3 1 _ rfl
      have xb2 := hBb_3 2 _ rfl
      have xb3 := hBb_3 3 _ rfl
      have xb4 := hBb_3 4 _ rfl
      have xb5 := hBb_3 5 _ rfl
      have xb6 := hBb_3 6 _ rfl
      go_wp2_with fail
      clear xb0 xb1 xb2 xb3 xb4 xb5 xb6 yb
      refine (cloneBlock_any b _ _ (hb1.ext he3) (by omega)).mono ?_
      rintro e w4 ⟨r1, F1, rfl, ho1, hf1, hy⟩
      have hx4 : Ext w3 w4 := Ext.trans (Ext.auto) hy
      have hs4 := hx4.size
      have he4 : Ext w w4 := he3.trans hx4
      have hBb_4 : Bx w4 (w.heap.size) [.int .i64 b.pc, .int .i64 b.len, (.slice Ab1 b.ops.length cb1), .int .i64 b.fin, .int .i64 b.x, .int .i64 b.y, .int .i64 b.k] := hx4.bx hBb_3 (by omega)
      have hFb_4 : ∀ oo, w4.frozen? ⟨w.heap.size, oo, none⟩ = false := fun oo => (hx4.frozen (by omega)).trans (hFb_3 oo)
      have hBres_4 : Bx w4 (w.heap.size + 1) [.int .i64 0, .int .i64 0, .slice none 0 0, .int .i64 0, .int .i64 0, .int .i64 0, .int .i64 0] := hx4.bx hBres_3 (by omega)
      have hFres_4 : ∀ oo, w4.frozen? ⟨w.heap.size + 1, oo, none⟩ = false := fun oo => (hx4.frozen (by omega)).trans (hFres_3 oo)
      clear hBb_3 hFb_3 hBres_3 hFres_3
      have hRnm_4 : FRow w4 (w1.heap.size) 0 (N) := hRnm_3.ext hx4
      clear hRnm_3
      clear hy
      by_cases hK0 : b.ops = []
      · 
        have hl0 : b.ops.length = 0 := by rw [hK0]; rfl
        obtain ⟨B1, d1, hv, -, h3, h0, -, -⟩ := ho1
        rw [hl0] at hv
        subst hv
        have HK0 := hide hK0
        clear hK0 hl0
        go_wp2_with fail
        have he5 : Ext w (w4.alloc (Obj.cells #[.int .i64 b.pc, .int .i64 b.len, (.slice B1 0 d1), .int .i64 b.fin, .int .i64 b.x, .int .i64 b.y, .int .i64 b.k] 30)) := (Ext.hold he4)
        have hs5 : w4.heap.size + 1 ≤ ((w4.alloc (Obj.cells #[.int .i64 b.pc, .int .i64 b.len, (.slice B1 0 d1), .int .i64 b.fin, .int .i64 b.x, .int .i64 b.y, .int .i64 b.k] 30))).heap.size := by simp
        have hq5 := hide (show ((w4.alloc (Obj.cells #[.int .i64 b.pc, .int .i64 b.len, (.slice B1 0 d1), .int .i64 b.fin, .int .i64 b.x, .int .i64 b.y, .int .i64 b.k] 30))).heap.size = w4.heap.size + 1 by simp)
        have hltnm_5 : w1.heap.size < w4.heap.size := hRnm_4.lt
        have hBb_5 : Bx ((w4.alloc (Obj.cells #[.int .i64 b.pc, .int .i64 b.len, (.slice B1 0 d1), .int .i64 b.fin, .int .i64 b.x, .int .i64 b.y, .int .i64 b.k] 30))) (w.heap.size) [.int .i64 b.pc, .int .i64 b.len, (.slice Ab1 b.ops.length cb1), .int .i64 b.fin, .int .i64 b.x, .int .i64 b.y, .int .i64 b.k] := Bx.hold hBb_4
        have hFb_5 : ∀ oo, ((w4.alloc (Obj.cells #[.int .i64 b.pc, .int .i64 b.len, (.slice B1 0 d1), .int .i64 b.fin, .int .i64 b.x, .int .i64 b.y, .int .i64 b.k] 30))).frozen? ⟨w.heap.size, oo, none⟩ = false := (fz_hold hFb_4)
        have hBres_5 : Bx ((w4.alloc (Obj.cells #[.int .i64 b.pc, .int .i64 b.len, (.slice B1 0 d1), .int .i64 b.fin, .int .i64 b.x, .int .i64 b.y, .int .i64 b.k] 30))) (w.heap.size + 1) [.int .i64 0, .int .i64 0, .slice none 0 0, .int .i64 0, .int .i64 0, .int .i64 0, .int .i64 0] := Bx.hold hBres_4
        have hFres_5 : ∀ oo, ((w4.alloc (Obj.cells #[.int .i64 b.pc, .int .i64 b.len, (.slice B1 0 d1), .int .i64 b.fin, .int .i64 b.x, .int .i64 b.y, .int .i64 b.k] 30))).frozen? ⟨w.heap.size + 1, oo, none⟩ = false := (fz_hold hFres_4)
        have hRnm_5 : FRow ((w4.alloc (Obj.cells #[.int .i64 b.pc, .int .i64 b.len, (.slice B1 0 d1), .int .i64 b.fin, .int .i64 b.x, .int .i64 b.y, .int .i64 b.k] 30))) (w1.heap.size) 0 (N) := FRow.hold hRnm_4
        have hBu_5 : Bx ((w4.alloc (Obj.cells #[.int .i64 b.pc, .int .i64 b.len, (.slice B1 0 d1), .int .i64 b.fin, .int .i64 b.x, .int .i64 b.y, .int .i64 b.k] 30))) (w4.heap.size) [.int .i64 b.pc, .int .i64 b.len, (.slice B1 0 d1), .int .i64 b.fin, .int .i64 b.x, .int .i64 b.y, .int .i64 b.k] := (Bx.new w4 #[.int .i64 b.pc, .int .i64 b.len, (.slice B1 0 d1), .int .i64 b.fin, .int .i64 b.x, .int .i64 b.y, .int .i64 b.k] 30)
        have hFu_5 : ∀ oo, ((w4.alloc (Obj.cells #[.int .i64 b.pc, .int .i64 b.len, (.slice B1 0 d1), .int .i64 b.fin, .int .i64 b.x, .int .i64 b.y, .int .i64 b.k] 30))).frozen? ⟨w4.heap.size, oo, none⟩ = false := (fz_new w4 #[.int .i64 b.pc, .int .i64 b.len, (.slice B1 0 d1), .int .i64 b.fin, .int .i64 b.x, .int .i64 b.y, .int .i64 b.k] 30 rfl)
        generalize (w4.alloc (Obj.cells #[.int .i64 b.pc, .int .i64 b.len, (.slice B1 0 d1), .int .i64 b.fin, .int .i64 b.x, .int .i64 b.y, .int .i64 b.k] 30)) = w5 at *
        clear hBb_4 hFb_4 hBres_4 hFres_4 hRnm_4
        have hlu : w4.heap.size < w5.heap.size := by omega
        have hcall := rename0_any b N (w4.heap.size) (w1.heap.size) B1 d1 b.ops.length w5 HK0.out hBu_5 hFu_5 (by omega) hRnm_5 (by omega) (by rw [HNL.out]; exact Nat.le_refl _) (by unfold maxLen; omega) h0 h3 hX hY
        rw [HNL.out] at hcall
        refine hcall.mono ?_
        rintro e w9 ⟨rfl, hch, hB9⟩
        have he6 : Ext w w9 := Chg.ext he5 hch (fun x hx => by simp at hx; omega)
        have hs6 := hch.size
        have hBres_6 := hBres_5.chg hch (by omega) (by first | (simp; done) | (simp; omega))
        have hFres_6 := fun oo => (hch.frozen (w.heap.size + 1) oo (by omega)).trans (hFres_5 oo)
        have hBu_6 : Bx w9 (w4.heap.size) [.int .i64 ((optCopy b).pc), .int .i64 ((optCopy b).len), (.slice B1 0 d1), .int .i64 ((optCopy b).fin), .int .i64 ((optCopy b).x), .int .i64 ((optCopy b).y), .int .i64 ((optCopy b).k)] := by rw [HDB.out, show b.ops.map (ren N) = b.ops by rw [HK0.out]; rfl]; exact hB9
        clear hBres_5 hFres_5 hBu_5 hB9 hcall
        obtain ⟨w6, hw9⟩ : ∃ w6 : World, w6 = w9 := ⟨_, rfl⟩
        subst hw9
        have yu : w4.heap.size < w6.heap.size := by omega
        have xu0 := hBu_6 0 _ rfl
        have xu1 := hBu_6 1 _ rfl
        have xu2 := hBu_6 2 _ rfl
        have xu3 := hBu_6 3 _ rfl
        have xu4 := hBu_6 4 _ rfl
        have xu5 := hBu_6 5 _ rfl
        have xu6 := hBu_6 6 _ rfl
        have yres : w.heap.size + 1 < w6.heap.size := by omega
        have xres0 := hBres_6 0 _ rfl
        have xres1 := hBres_6 1 _ rfl
        have xres2 := hBres_6 2 _ rfl
        have xres3 := hBres_6 3 _ rfl
        have xres4 := hBres_6 4 _ rfl
        have xres5 := hBres_6 5 _ rfl
        have xres6 := hBres_6 6 _ rfl
        have fres := hFres_6
        go_wp2
        have hF : Fr w1 w6 ([] : List Nat) := Fr.nil _ _
        first
        | refine bodyPost_ret (v := .agg #[.int .i64 ((optCopy b).pc), .int .i64 ((optCopy b).len), (.slice B1 0 d1), .int .i64 ((optCopy b).fin), .int .i64 ((optCopy b).x), .int .i64 ((optCopy b).y), .int .i64 ((optCopy b).k)]) (by simp [results, Try.results46, go_sem, xres0, xres1, xres2, xres3, xres4, xres5, xres6, yres]) rfl ⟨_, [], rfl, ?_, ?_, ?_⟩
        | refine bodyPost_ret (v := .agg #[.int .i64 ((optCopy b).pc), .int .i64 ((optCopy b).len), (.slice B1 0 d1), .int .i64 ((optCopy b).fin), .int .i64 ((optCopy b).x), .int .i64 ((optCopy b).y), .int .i64 ((optCopy b).k)]) (by simp [results, Try.results46, go_sem, xres0, xres1, xres2, xres3, xres4, xres5, xres6, yres]) rfl ⟨_, rfl, [], ?_, ?_, ?_⟩
        · rw [HDB.out]; rw [show (renEnd N b (b.ops.map (ren N))).ops = [] by show b.ops.map (ren N) = []; rw [HK0.out]; rfl]; exact ⟨_, d1, rfl, Nat.zero_le _, h3, h0, fun _ => rfl, fun h => absurd rfl h⟩
        · exact Fr.nil _ _
        · exact (Ext.hold he6)
      · 
        obtain ⟨B1, d1, rfl, hd1, hm1⟩ := ho1.sl.form
        obtain ⟨bo, oo1, rfl, hge, hRo⟩ := FRow.of_own ho1 hf1 (by cases hq : b.ops with | nil => exact absurd hq hK0 | cons a l => simp)
        have hlo : bo < w4.heap.size := hRo.lt
        have hRo_4 := hRo
        clear hRo hK0
        go_wp2_with fail
        have he5 : Ext w (w4.alloc (Obj.cells #[.int .i64 b.pc, .int .i64 b.len, (.slice (some ⟨bo, oo1, none⟩) b.ops.length d1), .int .i64 b.fin, .int .i64 b.x, .int .i64 b.y, .int .i64 b.k] 30)) := (Ext.hold he4)
        have hs5 : w4.heap.size + 1 ≤ ((w4.alloc (Obj.cells #[.int .i64 b.pc, .int .i64 b.len, (.slice (some ⟨bo, oo1, none⟩) b.ops.length d1), .int .i64 b.fin, .int .i64 b.x, .int .i64 b.y, .int .i64 b.k] 30))).heap.size := by simp
        have hq5 := hide (show ((w4.alloc (Obj.cells #[.int .i64 b.pc, .int .i64 b.len, (.slice (some ⟨bo, oo1, none⟩) b.ops.length d1), .int .i64 b.fin, .int .i64 b.x, .int .i64 b.y, .int .i64 b.k] 30))).heap.size = w4.heap.size + 1 by simp)
        have hltnm_5 : w1.heap.size < w4.heap.size := hRnm_4.lt
        have hlto_5 : bo < w4.heap.size := hRo_4.lt
        have hBb_5 : Bx ((w4.alloc (Obj.cells #[.int .i64 b.pc, .int .i64 b.len, (.slice (some ⟨bo, oo1, none⟩) b.ops.length d1), .int .i64 b.fin, .int .i64 b.x, .int .i64 b.y, .int .i64 b.k] 30))) (w.heap.size) [.int .i64 b.pc, .int .i64 b.len, (.slice Ab1 b.ops.length cb1), .int .i64 b.fin, .int .i64 b.x, .int .i64 b.y, .int .i64 b.k] := Bx.hold hBb_4
        have hFb_5 : ∀ oo, ((w4.alloc (Obj.cells #[.int .i64 b.pc, .int .i64 b.len, (.slice (some ⟨bo, oo1, none⟩) b.ops.length d1), .int .i64 b.fin, .int .i64 b.x, .int .i64 b.y, .int .i64 b.k] 30))).frozen? ⟨w.heap.size, oo, none⟩ = false := (fz_hold hFb_4)
        have hBres_5 : Bx ((w4.alloc (Obj.cells #[.int .i64 b.pc, .int .i64 b.len, (.slice (some ⟨bo, oo1, none⟩) b.ops.length d1), .int .i64 b.fin, .int .i64 b.x, .int .i64 b.y, .int .i64 b.k] 30))) (w.heap.size + 1) [.int .i64 0, .int .i64 0, .slice none 0 0, .int .i64 0, .int .i64 0, .int .i64 0, .int .i64 0] := Bx.hold hBres_4
        have hFres_5 : ∀ oo, ((w4.alloc (Obj.cells #[.int .i64 b.pc, .int .i64 b.len, (.slice (some ⟨bo, oo1, none⟩) b.ops.length d1), .int .i64 b.fin, .int .i64 b.x, .int .i64 b.y, .int .i64 b.k] 30))).frozen? ⟨w.heap.size + 1, oo, none⟩ = false := (fz_hold hFres_4)
        have hRnm_5 : FRow ((w4.alloc (Obj.cells #[.int .i64 b.pc, .int .i64 b.len, (.slice (some ⟨bo, oo1, none⟩) b.ops.length d1), .int .i64 b.fin, .int .i64 b.x, .int .i64 b.y, .int .i64 b.k] 30))) (w1.heap.size) 0 (N) := FRow.hold hRnm_4
        have hRo_5 : FRow ((w4.alloc (Obj.cells #[.int .i64 b.pc, .int .i64 b.len, (.slice (some ⟨bo, oo1, none⟩) b.ops.length d1), .int .i64 b.fin, .int .i64 b.x, .int .i64 b.y, .int .i64 b.k] 30))) (bo) oo1 (b.ops) := FRow.hold hRo_4
        have hBu_5 : Bx ((w4.alloc (Obj.cells #[.int .i64 b.pc, .int .i64 b.len, (.slice (some ⟨bo, oo1, none⟩) b.ops.length d1), .int .i64 b.fin, .int .i64 b.x, .int .i64 b.y, .int .i64 b.k] 30))) (w4.heap.size) [.int .i64 b.pc, .int .i64 b.len, (.slice (some ⟨bo, oo1, none⟩) b.ops.length d1), .int .i64 b.fin, .int .i64 b.x, .int .i64 b.y, .int .i64 b.k] := (Bx.new w4 #[.int .i64 b.pc, .int .i64 b.len, (.slice (some ⟨bo, oo1, none⟩) b.ops.length d1), .int .i64 b.fin, .int .i64 b.x, .int .i64 b.y, .int .i64 b.k] 30)
        have hFu_5 : ∀ oo, ((w4.alloc (Obj.cells #[.int .i64 b.pc, .int .i64 b.len, (.slice (some ⟨bo, oo1, none⟩) b.ops.length d1), .int .i64 b.fin, .int .i64 b.x, .int .i64 b.y, .int .i64 b.k] 30))).frozen? ⟨w4.heap.size, oo, none⟩ = false := (fz_new w4 #[.int .i64 b.pc, .int .i64 b.len, (.slice (some ⟨bo, oo1, none⟩) b.ops.length d1), .int .i64 b.fin, .int .i64 b.x, .int .i64 b.y, .int .i64 b.k] 30 rfl)
        generalize (w4.alloc (Obj.cells #[.int .i64 b.pc, .int .i64 b.len, (.slice (some ⟨bo, oo1, none⟩) b.ops.length d1), .int .i64 b.fin, .int .i64 b.x, .int .i64 b.y, .int .i64 b.k] 30)) = w5 at *
        clear hBb_4 hFb_4 hBres_4 hFres_4 hRnm_4 hRo_4
        have hlu : w4.heap.size < w5.heap.size := by omega
        have hcall := rename_any b N (w4.heap.size) bo oo1 (w1.heap.size) d1 b.ops.length w5 hBu_5 hFu_5 (by omega) hRo_5 hRnm_5 (by omega) (by omega) (by omega) hd1 hm1 (by rw [HNL.out]; exact Nat.le_refl _) (by unfold maxLen; omega) hKD hOB hX hY
        rw [HNL.out] at hcall
        refine hcall.mono ?_
        rintro e w9 ⟨rfl, hch, hB9, hR9⟩
        have he6 : Ext w w9 := Chg.ext he5 hch (fun x hx => by simp at hx; omega)
        have hs6 := hch.size
        have hBres_6 := hBres_5.chg hch (by omega) (by first | (simp; done) | (simp; omega))
        have hFres_6 := fun oo => (hch.frozen (w.heap.size + 1) oo (by omega)).trans (hFres_5 oo)
        have hBu_6 : Bx w9 (w4.heap.size) [.int .i64 ((optCopy b).pc), .int .i64 ((optCopy b).len), (.slice (some ⟨bo, oo1, none⟩) b.ops.length d1), .int .i64 ((optCopy b).fin), .int .i64 ((optCopy b).x), .int .i64 ((optCopy b).y), .int .i64 ((optCopy b).k)] := by rw [HDB.out]; exact hB9
        clear hBres_5 hFres_5 hBu_5 hB9 hcall
        obtain ⟨w6, hw9⟩ : ∃ w6 : World, w6 = w9 := ⟨_, rfl⟩
        subst hw9
        have yu : w4.heap.size < w6.heap.size := by omega
        have xu0 := hBu_6 0 _ rfl
        have xu1 := hBu_6 1 _ rfl
        have xu2 := hBu_6 2 _ rfl
        have xu3 := hBu_6 3 _ rfl
        have xu4 := hBu_6 4 _ rfl
        have xu5 := hBu_6 5 _ rfl
        have xu6 := hBu_6 6 _ rfl
        have yres : w.heap.size + 1 < w6.heap.size := by omega
        have xres0 := hBres_6 0 _ rfl
        have xres1 := hBres_6 1 _ rfl
        have xres2 := hBres_6 2 _ rfl
        have xres3 := hBres_6 3 _ rfl
        have xres4 := hBres_6 4 _ rfl
        have xres5 := hBres_6 5 _ rfl
        have xres6 := hBres_6 6 _ rfl
        have fres := hFres_6
        go_wp2
        obtain ⟨F, ho, hf⟩ := hR9.own (w0 := w3) (n := b.ops.length) (c := d1) (by simp) (by simpa using hd1) hm1 hge
        first
        | refine bodyPost_ret (v := .agg #[.int .i64 ((optCopy b).pc), .int .i64 ((optCopy b).len), (.slice (some ⟨bo, oo1, none⟩) b.ops.length d1), .int .i64 ((optCopy b).fin), .int .i64 ((optCopy b).x), .int .i64 ((optCopy b).y), .int .i64 ((optCopy b).k)]) (by simp [results, Try.results46, go_sem, xres0, xres1, xres2, xres3, xres4, xres5, xres6, yres]) rfl ⟨_, F, rfl, ?_, ?_, ?_⟩
        | refine bodyPost_ret (v := .agg #[.int .i64 ((optCopy b).pc), .int .i64 ((optCopy b).len), (.slice (some ⟨bo, oo1, none⟩) b.ops.length d1), .int .i64 ((optCopy b).fin), .int .i64 ((optCopy b).x), .int .i64 ((optCopy b).y), .int .i64 ((optCopy b).k)]) (by simp [results, Try.results46, go_sem, xres0, xres1, xres2, xres3, xres4, xres5, xres6, yres]) rfl ⟨_, rfl, F, ?_, ?_, ?_⟩
        · rw [HDB.out]
          exact OwnSl.stay ho (fun b hb => by
            have q := hf.2 b hb; have q1 := q.1; have q2 := q.2
            repeat (first | rw [heap_set _ _ _ _ (by simp; omega)]))
        · exact hf.mk1 (by omega) (by simp)
        · exact (Ext.hold he6)

end Go.Proofs.Ytjemadbhpbbhlaa
