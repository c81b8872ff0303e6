/-
  LowS
-/
import Derived.Test.YteaacelfnkiboaaYWords
import Derived.Test.YteaacelfnkiboaaYDrawI
import Derived.Test.YteaacelfnkiboaaYByteLib
import Derived.Test.YteaacelfnkiboaaYRoom0Lib
import Derived.Deep.DeepCutAuto
namespace Go.Proofs.Yteaacelfnkiboaa
open Go.RowKit

set_option linter.unusedVariables false
set_option linter.unusedSimpArgs false
set_option maxRecDepth 100000

set_option maxHeartbeats 16000000 in
theorem l7Put_any (pc ln fin x y k : Int) (L : List IrOp) (lo : Nat) (v : Value) (kd ox oy ok oa : Int) (w : World) (hG : Gro 58 lo w v L) (hlen : L.length ≤ 1000) (hlo : lo ≤ w.heap.size) (h1 : Fits kd) (h2 : Fits ox) (h3 : Fits oy) (h4 : Fits ok) (h5 : Fits oa) :
    Calls Try.prog 125 #[.agg #[.int .i64 pc, .int .i64 ln, v, .int .i64 fin, .int .i64 x, .int .i64 y, .int .i64 k], .agg #[.int .i64 kd, .int .i64 ox, .int .i64 oy, .int .i64 ok, .int .i64 oa]] w fun e w' => ∃ (A : Option Addr) (c : Nat) (L' : List IrOp) (m : Nat), e = .returned (.tuple #[.agg #[.int .i64 pc, .int .i64 ln, (.slice A L'.length c), .int .i64 fin, .int .i64 x, .int .i64 y, .int .i64 k], .int .i64 (m : Int)]) ∧ m = L.length ∧ L' = L ++ [⟨kd, ox, oy, ok, oa⟩] ∧ Gro 58 lo w' (.slice A L'.length c) L' ∧ Grew [] v (.slice A L'.length c) w w' := by
  obtain ⟨i0, hi, hz0, hz1, hz2⟩ := info_parts infIrOp
  have HI := hide hi
  have HZ0 := hide hz0
  have HZ1 := hide hz1
  have HZ2 := hide hz2
  clear hi hz0 hz1 hz2
  obtain ⟨A0, c0, rfl, hlc, hcm⟩ := hG.form
  have hGlt := hG.lt
  go_enter Try.func125, Try.ntmps125
  go_upto_region 1 with fail
  have he0 : Ext w (((w.alloc (Obj.cells #[.int .i64 pc, .int .i64 ln, (.slice A0 L.length c0), .int .i64 fin, .int .i64 x, .int .i64 y, .int .i64 k] 25)).alloc (Obj.cells #[.int .i64 kd, .int .i64 ox, .int .i64 oy, .int .i64 ok, .int .i64 oa] 58)).alloc (Obj.cells #[.int .i64 0, .int .i64 0, .slice none 0 0, .int .i64 0, .int .i64 0, .int .i64 0, .int .i64 0] 25)) := (Ext.auto)
  have hs0 : w.heap.size + 3 ≤ ((((w.alloc (Obj.cells #[.int .i64 pc, .int .i64 ln, (.slice A0 L.length c0), .int .i64 fin, .int .i64 x, .int .i64 y, .int .i64 k] 25)).alloc (Obj.cells #[.int .i64 kd, .int .i64 ox, .int .i64 oy, .int .i64 ok, .int .i64 oa] 58)).alloc (Obj.cells #[.int .i64 0, .int .i64 0, .slice none 0 0, .int .i64 0, .int .i64 0, .int .i64 0, .int .i64 0] 25))).heap.size := by simp
  have hq0 := hide (show ((((w.alloc (Obj.cells #[.int .i64 pc, .int .i64 ln, (.slice A0 L.length c0), .int .i64 fin, .int .i64 x, .int .i64 y, .int .i64 k] 25)).alloc (Obj.cells #[.int .i64 kd, .int .i64 ox, .int .i64 oy, .int .i64 ok, .int .i64 oa] 58)).alloc (Obj.cells #[.int .i64 0, .int .i64 0, .slice none 0 0, .int .i64 0, .int .i64 0, .int .i64 0, .int .i64 0] 25))).heap.size = w.heap.size + 3 by simp)
  have hBb_0 : Bx (((w.alloc (Obj.cells #[.int .i64 pc, .int .i64 ln, (.slice A0 L.length c0), .int .i64 fin, .int .i64 x, .int .i64 y, .int .i64 k] 25)).alloc (Obj.cells #[.int .i64 kd, .int .i64 ox, .int .i64 oy, .int .i64 ok, .int .i64 oa] 58)).alloc (Obj.cells #[.int .i64 0, .int .i64 0, .slice none 0 0, .int .i64 0, .int .i64 0, .int .i64 0, .int .i64 0] 25)) (w.heap.size) [.int .i64 pc, .int .i64 ln, (.slice A0 L.length c0), .int .i64 fin, .int .i64 x, .int .i64 y, .int .i64 k] := (by have := (Bx.alloc (Bx.alloc (Bx.new w #[.int .i64 pc, .int .i64 ln, (.slice A0 L.length c0), .int .i64 fin, .int .i64 x, .int .i64 y, .int .i64 k] 25) (by simp) #[.int .i64 kd, .int .i64 ox, .int .i64 oy, .int .i64 ok, .int .i64 oa] 58) (by first | (simp; done) | (simp; omega)) #[.int .i64 0, .int .i64 0, .slice none 0 0, .int .i64 0, .int .i64 0, .int .i64 0, .int .i64 0] 25); simpa using this)
  have hFb_0 : ∀ oo, ((((w.alloc (Obj.cells #[.int .i64 pc, .int .i64 ln, (.slice A0 L.length c0), .int .i64 fin, .int .i64 x, .int .i64 y, .int .i64 k] 25)).alloc (Obj.cells #[.int .i64 kd, .int .i64 ox, .int .i64 oy, .int .i64 ok, .int .i64 oa] 58)).alloc (Obj.cells #[.int .i64 0, .int .i64 0, .slice none 0 0, .int .i64 0, .int .i64 0, .int .i64 0, .int .i64 0] 25))).frozen? ⟨w.heap.size, oo, none⟩ = false := (fz_alloc (fz_alloc (fz_new w #[.int .i64 pc, .int .i64 ln, (.slice A0 L.length c0), .int .i64 fin, .int .i64 x, .int .i64 y, .int .i64 k] 25 (by first | rfl | (simp; done))) (by first | (simp; done) | (simp; omega)) (Obj.cells #[.int .i64 kd, .int .i64 ox, .int .i64 oy, .int .i64 ok, .int .i64 oa] 58)) (by first | (simp; done) | (simp; omega)) (Obj.cells #[.int .i64 0, .int .i64 0, .slice none 0 0, .int .i64 0, .int .i64 0, .int .i64 0, .int .i64 0] 25))
  have hBo_0 : Bx (((w.alloc (Obj.cells #[.int .i64 pc, .int .i64 ln, (.slice A0 L.length c0), .int .i64 fin, .int .i64 x, .int .i64 y, .int .i64 k] 25)).alloc (Obj.cells #[.int .i64 kd, .int .i64 ox, .int .i64 oy, .int .i64 ok, .int .i64 oa] 58)).alloc (Obj.cells #[.int .i64 0, .int .i64 0, .slice none 0 0, .int .i64 0, .int .i64 0, .int .i64 0, .int .i64 0] 25)) (w.heap.size + 1) [.int .i64 kd, .int .i64 ox, .int .i64 oy, .int .i64 ok, .int .i64 oa] := (by have := (Bx.alloc (Bx.new (w.alloc (Obj.cells #[.int .i64 pc, .int .i64 ln, (.slice A0 L.length c0), .int .i64 fin, .int .i64 x, .int .i64 y, .int .i64 k] 25)) #[.int .i64 kd, .int .i64 ox, .int .i64 oy, .int .i64 ok, .int .i64 oa] 58) (by simp) #[.int .i64 0, .int .i64 0, .slice none 0 0, .int .i64 0, .int .i64 0, .int .i64 0, .int .i64 0] 25); simpa using this)
  have hFo_0 : ∀ oo, ((((w.alloc (Obj.cells #[.int .i64 pc, .int .i64 ln, (.slice A0 L.length c0), .int .i64 fin, .int .i64 x, .int .i64 y, .int .i64 k] 25)).alloc (Obj.cells #[.int .i64 kd, .int .i64 ox, .int .i64 oy, .int .i64 ok, .int .i64 oa] 58)).alloc (Obj.cells #[.int .i64 0, .int .i64 0, .slice none 0 0, .int .i64 0, .int .i64 0, .int .i64 0, .int .i64 0] 25))).frozen? ⟨w.heap.size + 1, oo, none⟩ = false := (fz_alloc (fz_new (w.alloc (Obj.cells #[.int .i64 pc, .int .i64 ln, (.slice A0 L.length c0), .int .i64 fin, .int .i64 x, .int .i64 y, .int .i64 k] 25)) #[.int .i64 kd, .int .i64 ox, .int .i64 oy, .int .i64 ok, .int .i64 oa] 58 (by first | rfl | (simp; done))) (by first | (simp; done) | (simp; omega)) (Obj.cells #[.int .i64 0, .int .i64 0, .slice none 0 0, .int .i64 0, .int .i64 0, .int .i64 0, .int .i64 0] 25))
  have hBres_0 : Bx (((w.alloc (Obj.cells #[.int .i64 pc, .int .i64 ln, (.slice A0 L.length c0), .int .i64 fin, .int .i64 x, .int .i64 y, .int .i64 k] 25)).alloc (Obj.cells #[.int .i64 kd, .int .i64 ox, .int .i64 oy, .int .i64 ok, .int .i64 oa] 58)).alloc (Obj.cells #[.int .i64 0, .int .i64 0, .slice none 0 0, .int .i64 0, .int .i64 0, .int .i64 0, .int .i64 0] 25)) (w.heap.size + 1 + 1) [.int .i64 0, .int .i64 0, .slice none 0 0, .int .i64 0, .int .i64 0, .int .i64 0, .int .i64 0] := (by have := (Bx.new ((w.alloc (Obj.cells #[.int .i64 pc, .int .i64 ln, (.slice A0 L.length c0), .int .i64 fin, .int .i64 x, .int .i64 y, .int .i64 k] 25)).alloc (Obj.cells #[.int .i64 kd, .int .i64 ox, .int .i64 oy, .int .i64 ok, .int .i64 oa] 58)) #[.int .i64 0, .int .i64 0, .slice none 0 0, .int .i64 0, .int .i64 0, .int .i64 0, .int .i64 0] 25); simpa using this)
  have hFres_0 : ∀ oo, ((((w.alloc (Obj.cells #[.int .i64 pc, .int .i64 ln, (.slice A0 L.length c0), .int .i64 fin, .int .i64 x, .int .i64 y, .int .i64 k] 25)).alloc (Obj.cells #[.int .i64 kd, .int .i64 ox, .int .i64 oy, .int .i64 ok, .int .i64 oa] 58)).alloc (Obj.cells #[.int .i64 0, .int .i64 0, .slice none 0 0, .int .i64 0, .int .i64 0, .int .i64 0, .int .i64 0] 25))).frozen? ⟨w.heap.size + 1 + 1, oo, none⟩ = false := (fz_new ((w.alloc (Obj.cells #[.int .i64 pc, .int .i64 ln, (.slice A0 L.length c0), .int .i64 fin, .int .i64 x, .int .i64 y, .int .i64 k] 25)).alloc (Obj.cells #[.int .i64 kd, .int .i64 ox, .int .i64 oy, .int .i64 ok, .int .i64 oa] 58)) #[.int .i64 0, .int .i64 0, .slice none 0 0, .int .i64 0, .int .i64 0, .int .i64 0, .int .i64 0] 25 (by first | rfl | (simp; done)))
  generalize (((w.alloc (Obj.cells #[.int .i64 pc, .int .i64 ln, (.slice A0 L.length c0), .int .i64 fin, .int .i64 x, .int .i64 y, .int .i64 k] 25)).alloc (Obj.cells #[.int .i64 kd, .int .i64 ox, .int .i64 oy, .int .i64 ok, .int .i64 oa] 58)).alloc (Obj.cells #[.int .i64 0, .int .i64 0, .slice none 0 0, .int .i64 0, .int .i64 0, .int .i64 0, .int .i64 0] 25)) = w0 at *
  have hK : Grew [] (.slice A0 L.length c0) (.slice A0 L.length c0) w w0 := (Grew.refl _ _ _).ext he0
  replace hG := hG.ext he0
  have k_b : Bk _ w0 _ _ := ⟨hBb_0, hFb_0, (fun q hq e => by have := (hGlt q hq).2; omega : ∀ q, Value.ownBlock (.slice A0 L.length c0) = some q → q ≠ w.heap.size), by omega⟩
  have k_o : Bk _ w0 _ _ := ⟨hBo_0, hFo_0, (fun q hq e => by have := (hGlt q hq).2; omega : ∀ q, Value.ownBlock (.slice A0 L.length c0) = some q → q ≠ w.heap.size + 1), by omega⟩
  have k_res : Bk _ w0 _ _ := ⟨hBres_0, hFres_0, (fun q hq e => by have := (hGlt q hq).2; omega : ∀ q, Value.ownBlock (.slice A0 L.length c0) = some q → q ≠ w.heap.size + 1 + 1), by omega⟩
  clear hGlt hBb_0 hFb_0 hBo_0 hFo_0 hBres_0 hFres_0
  have hok9 : IrOp.Ok ⟨kd, ox, oy, ok, oa⟩ := ⟨h1, h2, h3, h4, h5⟩
  have hGq := hG.lt
  obtain ⟨wa, Fs, xs, h00, hA⟩ := hG
  have hAf := hA.flat
  unfold maxLen at hcm
  have yb := k_b.lt
  have xb0 := k_b.bx 0 _ rfl
  have xb1 := k_b.bx 1 _ rfl
  have xb2 := k_b.bx 2 _ rfl
  have xb3 := k_b.bx 3 _ rfl
  have xb4 := k_b.bx 4 _ rfl
  have xb5 := k_b.bx 5 _ rfl
  have xb6 := k_b.bx 6 _ rfl
  have fb := k_b.fz
  have yo := k_o.lt
  have xo0 := k_o.bx 0 _ rfl
  have xo1 := k_o.bx 1 _ rfl
  have xo2 := k_o.bx 2 _ rfl
  have xo3 := k_o.bx 3 _ rfl
  have xo4 := k_o.bx 4 _ rfl
  have fo := k_o.fz
  go_wp2_with (at_builtin; go_must (refine wpList_append_push2 (α := IrOp) (w0 := wa) (wr := w0) rfl _ _ 23 rfl i0 _ 40 Try.underlying23 HI.out HZ0.out HZ1.out HZ2.out rfl (by decide) hA.app rfl (⟨kd, ox, oy, ok, oa⟩) #[.int .i64 kd, .int .i64 ox, .int .i64 oy, .int .i64 ok, .int .i64 oa] 58 [] _ rfl Ext.auto ⟨rfl, hok9, rfl⟩ (Fr.nil _ _) (by repeat (first | (exact fun _ h => absurd h (List.not_mem_nil)) | (refine List.forall_mem_cons.2 ⟨rfl, ?_⟩))) (by unfold maxLen; omega) (by omega) ?_); intro v' w9 xs' hA9 hg9 hb9; have hG9 := Gro.pushG h00 (fun q hq => (hGq q hq).1) (by simp; omega) hAf hA9 hb9; have hy9 := Grew.of_grown (w := w0) (w' := (w0.alloc (.cells #[.int .i64 kd, .int .i64 ox, .int .i64 oy, .int .i64 ok, .int .i64 oa] 58))) Ext.auto hg9 rfl hb9 []; clear hA9 hg9 hb9; obtain ⟨L1, hL1⟩ : ∃ L1, L1 = L ++ [(⟨kd, ox, oy, ok, oa⟩ : IrOp)] := ⟨_, rfl⟩; rw [← hL1] at hG9; have HN1 := hide (show L1.length = L.length + 1 by rw [hL1]; simp); have HL1 := hide hL1; clear hL1; obtain ⟨A9, c9, rfl, -, -⟩ := hG9.form; have hs9 := hy9.size; have k_z := k_b.grew hy9; have xz2 := k_z.bx 2 _ rfl; have fz2 := k_z.fz; have yz2 := k_z.lt)
  clear xz2 fz2 yz2 k_z
  clear xb0 xb1 xb2 xb3 xb4 xb5 xb6 yb
  clear fb
  clear xo0 xo1 xo2 xo3 xo4 yo
  clear fo
  have hG := True.intro
  have hs1 := hy9.size
  replace hK := hK.trans hy9
  replace hG := hG9
  replace k_b := k_b.grew hy9
  replace k_res := k_res.grew hy9
  clear hy9 k_o
  obtain ⟨w1, hwn⟩ : ∃ w1 : World, w1 = w9 := ⟨_, rfl⟩
  subst hwn
  have k_b2 : Bk _ (w1.setCell ⟨w.heap.size, 2, none⟩ (.slice A9 L1.length c9)) _ [.int .i64 pc, .int .i64 ln, (.slice A9 L1.length c9), .int .i64 fin, .int .i64 x, .int .i64 y, .int .i64 k] := k_b.put (j := 2) (by simp) (.slice A9 L1.length c9)
  replace hK := hK.set (p := ⟨w.heap.size, 2, none⟩) (.inl (by simp)) (.slice A9 L1.length c9)
  replace hG := hG.set (p := ⟨w.heap.size, 2, none⟩) k_b.ne (.slice A9 L1.length c9)
  replace k_res := k_res.set (p := ⟨w.heap.size, 2, none⟩) (by simp; omega) (.slice A9 L1.length c9)
  clear k_b
  generalize (w1.setCell ⟨w.heap.size, 2, none⟩ (.slice A9 L1.length c9)) = w2 at *
  have k_b := k_b2
  clear k_b2
  have z1 : IntKind.i64.wrap ((L1.length : Int) - 1) = (L.length : Int) := by (have hn1 := HN1.out); rw [hn1, IntKind.wrap_i64] <;> omega
  have yb := k_b.lt
  have xb0 := k_b.bx 0 _ rfl
  have xb1 := k_b.bx 1 _ rfl
  have xb2 := k_b.bx 2 _ rfl
  have xb3 := k_b.bx 3 _ rfl
  have xb4 := k_b.bx 4 _ rfl
  have xb5 := k_b.bx 5 _ rfl
  have xb6 := k_b.bx 6 _ rfl
  have fb := k_b.fz
  have yres := k_res.lt
  have xres0 := k_res.bx 0 _ rfl
  have xres1 := k_res.bx 1 _ rfl
  have xres2 := k_res.bx 2 _ rfl
  have xres3 := k_res.bx 3 _ rfl
  have xres4 := k_res.bx 4 _ rfl
  have xres5 := k_res.bx 5 _ rfl
  have xres6 := k_res.bx 6 _ rfl
  have fres := k_res.fz
  have hS : ∀ w', Turn [w.heap.size + 1 + 1] w2 w' → ∀ oo, w'.cell? ⟨w.heap.size, oo, none⟩ = w2.cell? ⟨w.heap.size, oo, none⟩ := fun w' hx oo => hx.cell (by omega) (by simp; omega)
  refine wp_region_plan (fun w' => Turn [w.heap.size + 1 + 1] w2 w') 6 (.float 0 (.float 1 (.float 2 (.float 3 (.float 4 (.chain 5 (.tail 6))))))) (by kernel_rfl) (by kernel_rfl) (Turn.of_ext (Ext.refl _).drew _) ?_
  iterate 5 ((refine Plan.float_step (v := ?_) rfl (by rfl) (fun _ _ _ h => h) (fun w' hSw => ?_) ?_; rotate_left; · (go_simp; try with_reducible rfl)); (try simp only [Act.put, List.setIfInBounds_toArray, List.set_cons_zero, List.set_cons_succ]))
  refine Plan.chain_step rfl (fun K hK9 => ?_)
  go_simp
  generalize hwT : (((((((w2.setCell ⟨w.heap.size + 1 + 1, 0, none⟩ (.int .i64 pc)).setCell ⟨w.heap.size + 1 + 1, 1, none⟩ (.int .i64 ln)).setCell ⟨w.heap.size + 1 + 1, 2, none⟩ ((.slice A9 L1.length c9))).setCell ⟨w.heap.size + 1 + 1, 3, none⟩ (.int .i64 fin)).setCell ⟨w.heap.size + 1 + 1, 4, none⟩ (.int .i64 x)).setCell ⟨w.heap.size + 1 + 1, 5, none⟩ (.int .i64 y)).setCell ⟨w.heap.size + 1 + 1, 6, none⟩ (.int .i64 k)).drew = wT
  have hTw : Turn [w.heap.size + 1 + 1] w2 wT := by rw [← hwT]; exact Turn.hold (Turn.refl _ _)
  refine hK9.out _ _ hTw ?_
  clear hK9
  (try simp only [Act.put, List.setIfInBounds_toArray, List.set_cons_zero, List.set_cons_succ])
  refine Plan.tail_step ?_
  simp only [List.drop_succ_cons, List.drop_zero]
  clear hS
  have hBr : Bx wT (w.heap.size + 1 + 1) [.int .i64 pc, .int .i64 ln, (.slice A9 L1.length c9), .int .i64 fin, .int .i64 x, .int .i64 y, .int .i64 k] := by rw [← hwT]; exact Bx.drew (k_res.bx.store7 rfl (.int .i64 pc) (.int .i64 ln) ((.slice A9 L1.length c9)) (.int .i64 fin) (.int .i64 x) (.int .i64 y) (.int .i64 k))
  have xy0 := hBr 0 _ rfl
  have xy1 := hBr 1 _ rfl
  have xy2 := hBr 2 _ rfl
  have xy3 := hBr 3 _ rfl
  have xy4 := hBr 4 _ rfl
  have xy5 := hBr 5 _ rfl
  have xy6 := hBr 6 _ rfl
  have ys : w.heap.size + 1 + 1 < wT.heap.size := by have := hTw.size; omega
  have hGz : Gro 58 lo wT (.slice A9 L1.length c9) L1 := by rw [← hwT]; exact Gro.hold hG
  have hKz : Grew [] (.slice A0 L.length c0) (.slice A9 L1.length c9) w wT := by rw [← hwT]; exact Grew.hold hK
  go_wp2
  refine bodyPost_ret (v := .tuple #[.agg #[.int .i64 pc, .int .i64 ln, (.slice A9 L1.length c9), .int .i64 fin, .int .i64 x, .int .i64 y, .int .i64 k], .int .i64 (L.length : Int)]) (by simp [results, Try.results125, go_sem, xy0, xy1, xy2, xy3, xy4, xy5, xy6]) rfl ⟨A9, c9, L1, L.length, rfl, rfl, HL1.out, hGz, hKz⟩

set_option maxHeartbeats 16000000 in
theorem l7Get_any (pc ln fin x y k : Int) (L : List IrOp) (lo : Nat) (v : Value) (kk : Int) (w : World) (hG : Gro 58 lo w v L) (hlen : L.length ≤ 1000) (hlo : lo ≤ w.heap.size) (h1 : Fits kk) :
    Calls Try.prog 127 #[.agg #[.int .i64 pc, .int .i64 ln, v, .int .i64 fin, .int .i64 x, .int .i64 y, .int .i64 k], .int .i64 kk] w fun e w' => ∃ (A : Option Addr) (c : Nat) (L' : List IrOp) (m : Nat), e = .returned (.tuple #[.agg #[.int .i64 pc, .int .i64 ln, (.slice A L'.length c), .int .i64 fin, .int .i64 x, .int .i64 y, .int .i64 k], .int .i64 (m : Int)]) ∧ m = L.length ∧ L' = L ++ [⟨2, 0, 0, kk, 0⟩] ∧ Gro 58 lo w' (.slice A L'.length c) L' ∧ Grew [] v (.slice A L'.length c) w w' := by
  obtain ⟨A0, c0, rfl, hlc, hcm⟩ := hG.form
  have hGlt := hG.lt
  go_enter Try.func127, Try.ntmps127
  go_upto_region 1 with fail
  have he0 : Ext w ((w.alloc (Obj.cells #[.int .i64 pc, .int .i64 ln, (.slice A0 L.length c0), .int .i64 fin, .int .i64 x, .int .i64 y, .int .i64 k] 25)).alloc (Obj.cells #[.int .i64 0, .int .i64 0, .slice none 0 0, .int .i64 0, .int .i64 0, .int .i64 0, .int .i64 0] 25)) := (Ext.auto)
  have hs0 : w.heap.size + 2 ≤ (((w.alloc (Obj.cells #[.int .i64 pc, .int .i64 ln, (.slice A0 L.length c0), .int .i64 fin, .int .i64 x, .int .i64 y, .int .i64 k] 25)).alloc (Obj.cells #[.int .i64 0, .int .i64 0, .slice none 0 0, .int .i64 0, .int .i64 0, .int .i64 0, .int .i64 0] 25))).heap.size := by simp
  have hq0 := hide (show (((w.alloc (Obj.cells #[.int .i64 pc, .int .i64 ln, (.slice A0 L.length c0), .int .i64 fin, .int .i64 x, .int .i64 y, .int .i64 k] 25)).alloc (Obj.cells #[.int .i64 0, .int .i64 0, .slice none 0 0, .int .i64 0, .int .i64 0, .int .i64 0, .int .i64 0] 25))).heap.size = w.heap.size + 2 by simp)
  have hBb_0 : Bx ((w.alloc (Obj.cells #[.int .i64 pc, .int .i64 ln, (.slice A0 L.length c0), .int .i64 fin, .int .i64 x, .int .i64 y, .int .i64 k] 25)).alloc (Obj.cells #[.int .i64 0, .int .i64 0, .slice none 0 0, .int .i64 0, .int .i64 0, .int .i64 0, .int .i64 0] 25)) (w.heap.size) [.int .i64 pc, .int .i64 ln, (.slice A0 L.length c0), .int .i64 fin, .int .i64 x, .int .i64 y, .int .i64 k] := (by have := (Bx.alloc (Bx.new w #[.int .i64 pc, .int .i64 ln, (.slice A0 L.length c0), .int .i64 fin, .int .i64 x, .int .i64 y, .int .i64 k] 25) (by simp) #[.int .i64 0, .int .i64 0, .slice none 0 0, .int .i64 0, .int .i64 0, .int .i64 0, .int .i64 0] 25); simpa using this)
  have hFb_0 : ∀ oo, (((w.alloc (Obj.cells #[.int .i64 pc, .int .i64 ln, (.slice A0 L.length c0), .int .i64 fin, .int .i64 x, .int .i64 y, .int .i64 k] 25)).alloc (Obj.cells #[.int .i64 0, .int .i64 0, .slice none 0 0, .int .i64 0, .int .i64 0, .int .i64 0, .int .i64 0] 25))).frozen? ⟨w.heap.size, oo, none⟩ = false := fun oo => by simp
  have hBres_0 : Bx ((w.alloc (Obj.cells #[.int .i64 pc, .int .i64 ln, (.slice A0 L.length c0), .int .i64 fin, .int .i64 x, .int .i64 y, .int .i64 k] 25)).alloc (Obj.cells #[.int .i64 0, .int .i64 0, .slice none 0 0, .int .i64 0, .int .i64 0, .int .i64 0, .int .i64 0] 25)) (w.heap.size + 1) [.int .i64 0, .int .i64 0, .slice none 0 0, .int .i64 0, .int .i64 0, .int .i64 0, .int .i64 0] := (by have := (Bx.new (w.alloc (Obj.cells #[.int .i64 pc, .int .i64 ln, (.slice A0 L.length c0), .int .i64 fin, .int .i64 x, .int .i64 y, .int .i64 k] 25)) #[.int .i64 0, .int .i64 0, .slice none 0 0, .int .i64 0, .int .i64 0, .int .i64 0, .int .i64 0] 25); simpa using this)
  have hFres_0 : ∀ oo, (((w.alloc (Obj.cells #[.int .i64 pc, .int .i64 ln, (.slice A0 L.length c0), .int .i64 fin, .int .i64 x, .int .i64 y, .int .i64 k] 25)).alloc (Obj.cells #[.int .i64 0, .int .i64 0, .slice none 0 0, .int .i64 0, .int .i64 0, .int .i64 0, .int .i64 0] 25))).frozen? ⟨w.heap.size + 1, oo, none⟩ = false := fun oo => by simp
  generalize ((w.alloc (Obj.cells #[.int .i64 pc, .int .i64 ln, (.slice A0 L.length c0), .int .i64 fin, .int .i64 x, .int .i64 y, .int .i64 k] 25)).alloc (Obj.cells #[.int .i64 0, .int .i64 0, .slice none 0 0, .int .i64 0, .int .i64 0, .int .i64 0, .int .i64 0] 25)) = w0 at *
  have hK : Grew [] (.slice A0 L.length c0) (.slice A0 L.length c0) w w0 := (Grew.refl _ _ _).ext he0
  replace hG := hG.ext he0
  have k_b : Bk _ w0 _ _ := ⟨hBb_0, hFb_0, (fun q hq e => by have := (hGlt q hq).2; omega : ∀ q, Value.ownBlock (.slice A0 L.length c0) = some q → q ≠ w.heap.size), by omega⟩
  have k_res : Bk _ w0 _ _ := ⟨hBres_0, hFres_0, (fun q hq e => by have := (hGlt q hq).2; omega : ∀ q, Value.ownBlock (.slice A0 L.length c0) = some q → q ≠ w.heap.size + 1), by omega⟩
  clear hGlt hBb_0 hFb_0 hBres_0 hFres_0
  unfold Fits at h1
  have yb := k_b.lt
  have xb0 := k_b.bx 0 _ rfl
  have xb1 := k_b.bx 1 _ rfl
  have xb2 := k_b.bx 2 _ rfl
  have xb3 := k_b.bx 3 _ rfl
  have xb4 := k_b.bx 4 _ rfl
  have xb5 := k_b.bx 5 _ rfl
  have xb6 := k_b.bx 6 _ rfl
  have fb := k_b.fz
  go_wp2_with fail
  clear xb0 xb1 xb2 xb3 xb4 xb5 xb6 yb
  clear fb
  refine (l7Put_any pc ln fin x y k L lo _ 2 0 0 kk 0 _ hG (by omega) (by omega) (by unfold Fits; omega) (by unfold Fits; omega) (by unfold Fits; omega) (by unfold Fits; omega) (by unfold Fits; omega)).mono ?_
  rintro e w1 ⟨A1, c1, L1, m1, rfl, hm1, hL1, hG9, hy⟩
  have HM1 := hide hm1
  have bm1 : m1 ≤ L.length + 1 := by omega
  clear hm1
  have HL1 := hide hL1
  have bl1 : L1.length ≤ L.length + 1 := by rw [hL1]; simp [lowOps]
  clear hL1
  have hs1 := hy.size
  replace hK := hK.trans hy
  replace hG := hG9
  replace k_b := k_b.grew hy
  replace k_res := k_res.grew hy
  clear hy
  have yres := k_res.lt
  have xres0 := k_res.bx 0 _ rfl
  have xres1 := k_res.bx 1 _ rfl
  have xres2 := k_res.bx 2 _ rfl
  have xres3 := k_res.bx 3 _ rfl
  have xres4 := k_res.bx 4 _ rfl
  have xres5 := k_res.bx 5 _ rfl
  have xres6 := k_res.bx 6 _ rfl
  have fres := k_res.fz
  go_wp2
  refine bodyPost_ret (v := .tuple #[.agg #[.int .i64 pc, .int .i64 ln, (.slice A1 L1.length c1), .int .i64 fin, .int .i64 x, .int .i64 y, .int .i64 k], .int .i64 (m1 : Int)]) (by simp [results, Try.results127, go_sem, xres0, xres1, xres2, xres3, xres4, xres5, xres6]) rfl ⟨_, _, L1, m1, rfl, HM1.out, HL1.out, Gro.hold hG, Grew.hold hK⟩

set_option maxHeartbeats 16000000 in
theorem l7Set_any (pc ln fin x y k : Int) (L : List IrOp) (lo : Nat) (v : Value) (kk xx : Int) (w : World) (hG : Gro 58 lo w v L) (hlen : L.length ≤ 1000) (hlo : lo ≤ w.heap.size) (h1 : Fits kk) (h2 : Fits xx) :
    Calls Try.prog 126 #[.agg #[.int .i64 pc, .int .i64 ln, v, .int .i64 fin, .int .i64 x, .int .i64 y, .int .i64 k], .int .i64 kk, .int .i64 xx] w fun e w' => ∃ (A : Option Addr) (c : Nat) (L' : List IrOp), e = .returned (.agg #[.int .i64 pc, .int .i64 ln, (.slice A L'.length c), .int .i64 fin, .int .i64 x, .int .i64 y, .int .i64 k]) ∧ L' = L ++ [⟨8, xx, 0, kk, 0⟩] ∧ Gro 58 lo w' (.slice A L'.length c) L' ∧ Grew [] v (.slice A L'.length c) w w' := by
  obtain ⟨A0, c0, rfl, hlc, hcm⟩ := hG.form
  have hGlt := hG.lt
  go_enter Try.func126, Try.ntmps126
  go_upto_region 1 with fail
  have he0 : Ext w ((w.alloc (Obj.cells #[.int .i64 pc, .int .i64 ln, (.slice A0 L.length c0), .int .i64 fin, .int .i64 x, .int .i64 y, .int .i64 k] 25)).alloc (Obj.cells #[.int .i64 0, .int .i64 0, .slice none 0 0, .int .i64 0, .int .i64 0, .int .i64 0, .int .i64 0] 25)) := (Ext.auto)
  have hs0 : w.heap.size + 2 ≤ (((w.alloc (Obj.cells #[.int .i64 pc, .int .i64 ln, (.slice A0 L.length c0), .int .i64 fin, .int .i64 x, .int .i64 y, .int .i64 k] 25)).alloc (Obj.cells #[.int .i64 0, .int .i64 0, .slice none 0 0, .int .i64 0, .int .i64 0, .int .i64 0, .int .i64 0] 25))).heap.size := by simp
  have hq0 := hide (show (((w.alloc (Obj.cells #[.int .i64 pc, .int .i64 ln, (.slice A0 L.length c0), .int .i64 fin, .int .i64 x, .int .i64 y, .int .i64 k] 25)).alloc (Obj.cells #[.int .i64 0, .int .i64 0, .slice none 0 0, .int .i64 0, .int .i64 0, .int .i64 0, .int .i64 0] 25))).heap.size = w.heap.size + 2 by simp)
  have hBb_0 : Bx ((w.alloc (Obj.cells #[.int .i64 pc, .int .i64 ln, (.slice A0 L.length c0), .int .i64 fin, .int .i64 x, .int .i64 y, .int .i64 k] 25)).alloc (Obj.cells #[.int .i64 0, .int .i64 0, .slice none 0 0, .int .i64 0, .int .i64 0, .int .i64 0, .int .i64 0] 25)) (w.heap.size) [.int .i64 pc, .int .i64 ln, (.slice A0 L.length c0), .int .i64 fin, .int .i64 x, .int .i64 y, .int .i64 k] := (by have := (Bx.alloc (Bx.new w #[.int .i64 pc, .int .i64 ln, (.slice A0 L.length c0), .int .i64 fin, .int .i64 x, .int .i64 y, .int .i64 k] 25) (by simp) #[.int .i64 0, .int .i64 0, .slice none 0 0, .int .i64 0, .int .i64 0, .int .i64 0, .int .i64 0] 25); simpa using this)
  have hFb_0 : ∀ oo, (((w.alloc (Obj.cells #[.int .i64 pc, .int .i64 ln, (.slice A0 L.length c0), .int .i64 fin, .int .i64 x, .int .i64 y, .int .i64 k] 25)).alloc (Obj.cells #[.int .i64 0, .int .i64 0, .slice none 0 0, .int .i64 0, .int .i64 0, .int .i64 0, .int .i64 0] 25))).frozen? ⟨w.heap.size, oo, none⟩ = false := fun oo => by simp
  have hBres_0 : Bx ((w.alloc (Obj.cells #[.int .i64 pc, .int .i64 ln, (.slice A0 L.length c0), .int .i64 fin, .int .i64 x, .int .i64 y, .int .i64 k] 25)).alloc (Obj.cells #[.int .i64 0, .int .i64 0, .slice none 0 0, .int .i64 0, .int .i64 0, .int .i64 0, .int .i64 0] 25)) (w.heap.size + 1) [.int .i64 0, .int .i64 0, .slice none 0 0, .int .i64 0, .int .i64 0, .int .i64 0, .int .i64 0] := (by have := (Bx.new (w.alloc (Obj.cells #[.int .i64 pc, .int .i64 ln, (.slice A0 L.length c0), .int .i64 fin, .int .i64 x, .int .i64 y, .int .i64 k] 25)) #[.int .i64 0, .int .i64 0, .slice none 0 0, .int .i64 0, .int .i64 0, .int .i64 0, .int .i64 0] 25); simpa using this)
  have hFres_0 : ∀ oo, (((w.alloc (Obj.cells #[.int .i64 pc, .int .i64 ln, (.slice A0 L.length c0), .int .i64 fin, .int .i64 x, .int .i64 y, .int .i64 k] 25)).alloc (Obj.cells #[.int .i64 0, .int .i64 0, .slice none 0 0, .int .i64 0, .int .i64 0, .int .i64 0, .int .i64 0] 25))).frozen? ⟨w.heap.size + 1, oo, none⟩ = false := fun oo => by simp
  generalize ((w.alloc (Obj.cells #[.int .i64 pc, .int .i64 ln, (.slice A0 L.length c0), .int .i64 fin, .int .i64 x, .int .i64 y, .int .i64 k] 25)).alloc (Obj.cells #[.int .i64 0, .int .i64 0, .slice none 0 0, .int .i64 0, .int .i64 0, .int .i64 0, .int .i64 0] 25)) = w0 at *
  have hK : Grew [] (.slice A0 L.length c0) (.slice A0 L.length c0) w w0 := (Grew.refl _ _ _).ext he0
  replace hG := hG.ext he0
  have k_b : Bk _ w0 _ _ := ⟨hBb_0, hFb_0, (fun q hq e => by have := (hGlt q hq).2; omega : ∀ q, Value.ownBlock (.slice A0 L.length c0) = some q → q ≠ w.heap.size), by omega⟩
  have k_res : Bk _ w0 _ _ := ⟨hBres_0, hFres_0, (fun q hq e => by have := (hGlt q hq).2; omega : ∀ q, Value.ownBlock (.slice A0 L.length c0) = some q → q ≠ w.heap.size + 1), by omega⟩
  clear hGlt hBb_0 hFb_0 hBres_0 hFres_0
  unfold Fits at h1 h2
  have yb := k_b.lt
  have xb0 := k_b.bx 0 _ rfl
  have xb1 := k_b.bx 1 _ rfl
  have xb2 := k_b.bx 2 _ rfl
  have xb3 := k_b.bx 3 _ rfl
  have xb4 := k_b.bx 4 _ rfl
  have xb5 := k_b.bx 5 _ rfl
  have xb6 := k_b.bx 6 _ rfl
  have fb := k_b.fz
  go_wp2_with fail
  clear xb0 xb1 xb2 xb3 xb4 xb5 xb6 yb
  clear fb
  refine (l7Put_any pc ln fin x y k L lo _ 8 xx 0 kk 0 _ hG (by omega) (by omega) (by unfold Fits; omega) (by unfold Fits; omega) (by unfold Fits; omega) (by unfold Fits; omega) (by unfold Fits; omega)).mono ?_
  rintro e w1 ⟨A1, c1, L1, m1, rfl, hm1, hL1, hG9, hy⟩
  have HM1 := hide hm1
  have bm1 : m1 ≤ L.length + 1 := by omega
  clear hm1
  have HL1 := hide hL1
  have bl1 : L1.length ≤ L.length + 1 := by rw [hL1]; simp [lowOps]
  clear hL1
  have hs1 := hy.size
  replace hK := hK.trans hy
  replace hG := hG9
  replace k_b := k_b.grew hy
  replace k_res := k_res.grew hy
  clear hy
  go_upto_region 2 with fail
  generalize ho : Obj.cells #[.int .i64 pc, .int .i64 ln, (.slice A1 L1.length c1), .int .i64 fin, .int .i64 x, .int .i64 y, .int .i64 k] 25 = o
  have k_b1 := Bk.new hG ho
  replace hK := hK.alloc o
  replace hG := hG.alloc o
  have hs2 : w1.heap.size + 1 ≤ (w1.alloc o).heap.size := by simp
  replace k_b := k_b.alloc o
  replace k_res := k_res.alloc o
  generalize w1.alloc o = w2 at *
  clear ho
  have yb1 := k_b1.lt
  have xb10 := k_b1.bx 0 _ rfl
  have xb11 := k_b1.bx 1 _ rfl
  have xb12 := k_b1.bx 2 _ rfl
  have xb13 := k_b1.bx 3 _ rfl
  have xb14 := k_b1.bx 4 _ rfl
  have xb15 := k_b1.bx 5 _ rfl
  have xb16 := k_b1.bx 6 _ rfl
  have fb1 := k_b1.fz
  have yres := k_res.lt
  have xres0 := k_res.bx 0 _ rfl
  have xres1 := k_res.bx 1 _ rfl
  have xres2 := k_res.bx 2 _ rfl
  have xres3 := k_res.bx 3 _ rfl
  have xres4 := k_res.bx 4 _ rfl
  have xres5 := k_res.bx 5 _ rfl
  have xres6 := k_res.bx 6 _ rfl
  have fres := k_res.fz
  go_wp2
  refine bodyPost_ret (v := .agg #[.int .i64 pc, .int .i64 ln, (.slice A1 L1.length c1), .int .i64 fin, .int .i64 x, .int .i64 y, .int .i64 k]) (by simp [results, Try.results126, go_sem, xres0, xres1, xres2, xres3, xres4, xres5, xres6]) rfl ⟨_, _, L1, rfl, HL1.out, Gro.hold hG, Grew.hold hK⟩

set_option maxHeartbeats 16000000 in
theorem l7Reckon_any (pc ln fin x y k : Int) (L : List IrOp) (lo : Nat) (v : Value) (op a kd ox oy ok oa : Int) (w : World) (hG : Gro 58 lo w v L) (hlen : L.length ≤ 990) (hlo : lo ≤ w.heap.size) (h1 : Fits op) (h2 : Fits a) (h3 : Fits kd) (h4 : Fits ox) (h5 : Fits oy) (h6 : Fits ok) (h7 : Fits oa) :
    Calls Try.prog 128 #[.agg #[.int .i64 pc, .int .i64 ln, v, .int .i64 fin, .int .i64 x, .int .i64 y, .int .i64 k], .int .i64 op, .int .i64 a, .agg #[.int .i64 kd, .int .i64 ox, .int .i64 oy, .int .i64 ok, .int .i64 oa]] w fun e w' => ∃ (A : Option Addr) (c : Nat) (L' : List IrOp) (m : Nat), e = .returned (.tuple #[.agg #[.int .i64 pc, .int .i64 ln, (.slice A L'.length c), .int .i64 fin, .int .i64 x, .int .i64 y, .int .i64 k], .int .i64 (m : Int)]) ∧ m = L.length + 2 ∧ L' = L ++ [⟨2, 0, 0, a, 0⟩, ⟨kd, ox, oy, ok, oa⟩, ⟨3, (L.length : Int), (L.length : Int) + 1, op, 0⟩] ∧ Gro 58 lo w' (.slice A L'.length c) L' ∧ Grew [] v (.slice A L'.length c) w w' := by
  obtain ⟨A0, c0, rfl, hlc, hcm⟩ := hG.form
  have hGlt := hG.lt
  go_enter Try.func128, Try.ntmps128
  go_upto_region 1 with fail
  have he0 : Ext w (((w.alloc (Obj.cells #[.int .i64 pc, .int .i64 ln, (.slice A0 L.length c0), .int .i64 fin, .int .i64 x, .int .i64 y, .int .i64 k] 25)).alloc (Obj.cells #[.int .i64 kd, .int .i64 ox, .int .i64 oy, .int .i64 ok, .int .i64 oa] 58)).alloc (Obj.cells #[.int .i64 0, .int .i64 0, .slice none 0 0, .int .i64 0, .int .i64 0, .int .i64 0, .int .i64 0] 25)) := (Ext.auto)
  have hs0 : w.heap.size + 3 ≤ ((((w.alloc (Obj.cells #[.int .i64 pc, .int .i64 ln, (.slice A0 L.length c0), .int .i64 fin, .int .i64 x, .int .i64 y, .int .i64 k] 25)).alloc (Obj.cells #[.int .i64 kd, .int .i64 ox, .int .i64 oy, .int .i64 ok, .int .i64 oa] 58)).alloc (Obj.cells #[.int .i64 0, .int .i64 0, .slice none 0 0, .int .i64 0, .int .i64 0, .int .i64 0, .int .i64 0] 25))).heap.size := by simp
  have hq0 := hide (show ((((w.alloc (Obj.cells #[.int .i64 pc, .int .i64 ln, (.slice A0 L.length c0), .int .i64 fin, .int .i64 x, .int .i64 y, .int .i64 k] 25)).alloc (Obj.cells #[.int .i64 kd, .int .i64 ox, .int .i64 oy, .int .i64 ok, .int .i64 oa] 58)).alloc (Obj.cells #[.int .i64 0, .int .i64 0, .slice none 0 0, .int .i64 0, .int .i64 0, .int .i64 0, .int .i64 0] 25))).heap.size = w.heap.size + 3 by simp)
  have hBb_0 : Bx (((w.alloc (Obj.cells #[.int .i64 pc, .int .i64 ln, (.slice A0 L.length c0), .int .i64 fin, .int .i64 x, .int .i64 y, .int .i64 k] 25)).alloc (Obj.cells #[.int .i64 kd, .int .i64 ox, .int .i64 oy, .int .i64 ok, .int .i64 oa] 58)).alloc (Obj.cells #[.int .i64 0, .int .i64 0, .slice none 0 0, .int .i64 0, .int .i64 0, .int .i64 0, .int .i64 0] 25)) (w.heap.size) [.int .i64 pc, .int .i64 ln, (.slice A0 L.length c0), .int .i64 fin, .int .i64 x, .int .i64 y, .int .i64 k] := (by have := (Bx.alloc (Bx.alloc (Bx.new w #[.int .i64 pc, .int .i64 ln, (.slice A0 L.length c0), .int .i64 fin, .int .i64 x, .int .i64 y, .int .i64 k] 25) (by simp) #[.int .i64 kd, .int .i64 ox, .int .i64 oy, .int .i64 ok, .int .i64 oa] 58) (by first | (simp; done) | (simp; omega)) #[.int .i64 0, .int .i64 0, .slice none 0 0, .int .i64 0, .int .i64 0, .int .i64 0, .int .i64 0] 25); simpa using this)
  have hFb_0 : ∀ oo, ((((w.alloc (Obj.cells #[.int .i64 pc, .int .i64 ln, (.slice A0 L.length c0), .int .i64 fin, .int .i64 x, .int .i64 y, .int .i64 k] 25)).alloc (Obj.cells #[.int .i64 kd, .int .i64 ox, .int .i64 oy, .int .i64 ok, .int .i64 oa] 58)).alloc (Obj.cells #[.int .i64 0, .int .i64 0, .slice none 0 0, .int .i64 0, .int .i64 0, .int .i64 0, .int .i64 0] 25))).frozen? ⟨w.heap.size, oo, none⟩ = false := (fz_alloc (fz_alloc (fz_new w #[.int .i64 pc, .int .i64 ln, (.slice A0 L.length c0), .int .i64 fin, .int .i64 x, .int .i64 y, .int .i64 k] 25 (by first | rfl | (simp; done))) (by first | (simp; done) | (simp; omega)) (Obj.cells #[.int .i64 kd, .int .i64 ox, .int .i64 oy, .int .i64 ok, .int .i64 oa] 58)) (by first | (simp; done) | (simp; omega)) (Obj.cells #[.int .i64 0, .int .i64 0, .slice none 0 0, .int .i64 0, .int .i64 0, .int .i64 0, .int .i64 0] 25))
  have hBo_0 : Bx (((w.alloc (Obj.cells #[.int .i64 pc, .int .i64 ln, (.slice A0 L.length c0), .int .i64 fin, .int .i64 x, .int .i64 y, .int .i64 k] 25)).alloc (Obj.cells #[.int .i64 kd, .int .i64 ox, .int .i64 oy, .int .i64 ok, .int .i64 oa] 58)).alloc (Obj.cells #[.int .i64 0, .int .i64 0, .slice none 0 0, .int .i64 0, .int .i64 0, .int .i64 0, .int .i64 0] 25)) (w.heap.size + 1) [.int .i64 kd, .int .i64 ox, .int .i64 oy, .int .i64 ok, .int .i64 oa] := (by have := (Bx.alloc (Bx.new (w.alloc (Obj.cells #[.int .i64 pc, .int .i64 ln, (.slice A0 L.length c0), .int .i64 fin, .int .i64 x, .int .i64 y, .int .i64 k] 25)) #[.int .i64 kd, .int .i64 ox, .int .i64 oy, .int .i64 ok, .int .i64 oa] 58) (by simp) #[.int .i64 0, .int .i64 0, .slice none 0 0, .int .i64 0, .int .i64 0, .int .i64 0, .int .i64 0] 25); simpa using this)
  have hFo_0 : ∀ oo, ((((w.alloc (Obj.cells #[.int .i64 pc, .int .i64 ln, (.slice A0 L.length c0), .int .i64 fin, .int .i64 x, .int .i64 y, .int .i64 k] 25)).alloc (Obj.cells #[.int .i64 kd, .int .i64 ox, .int .i64 oy, .int .i64 ok, .int .i64 oa] 58)).alloc (Obj.cells #[.int .i64 0, .int .i64 0, .slice none 0 0, .int .i64 0, .int .i64 0, .int .i64 0, .int .i64 0] 25))).frozen? ⟨w.heap.size + 1, oo, none⟩ = false := (fz_alloc (fz_new (w.alloc (Obj.cells #[.int .i64 pc, .int .i64 ln, (.slice A0 L.length c0), .int .i64 fin, .int .i64 x, .int .i64 y, .int .i64 k] 25)) #[.int .i64 kd, .int .i64 ox, .int .i64 oy, .int .i64 ok, .int .i64 oa] 58 (by first | rfl | (simp; done))) (by first | (simp; done) | (simp; omega)) (Obj.cells #[.int .i64 0, .int .i64 0, .slice none 0 0, .int .i64 0, .int .i64 0, .int .i64 0, .int .i64 0] 25))
  have hBres_0 : Bx (((w.alloc (Obj.cells #[.int .i64 pc, .int .i64 ln, (.slice A0 L.length c0), .int .i64 fin, .int .i64 x, .int .i64 y, .int .i64 k] 25)).alloc (Obj.cells #[.int .i64 kd, .int .i64 ox, .int .i64 oy, .int .i64 ok, .int .i64 oa] 58)).alloc (Obj.cells #[.int .i64 0, .int .i64 0, .slice none 0 0, .int .i64 0, .int .i64 0, .int .i64 0, .int .i64 0] 25)) (w.heap.size + 1 + 1) [.int .i64 0, .int .i64 0, .slice none 0 0, .int .i64 0, .int .i64 0, .int .i64 0, .int .i64 0] := (by have := (Bx.new ((w.alloc (Obj.cells #[.int .i64 pc, .int .i64 ln, (.slice A0 L.length c0), .int .i64 fin, .int .i64 x, .int .i64 y, .int .i64 k] 25)).alloc (Obj.cells #[.int .i64 kd, .int .i64 ox, .int .i64 oy, .int .i64 ok, .int .i64 oa] 58)) #[.int .i64 0, .int .i64 0, .slice none 0 0, .int .i64 0, .int .i64 0, .int .i64 0, .int .i64 0] 25); simpa using this)
  have hFres_0 : ∀ oo, ((((w.alloc (Obj.cells #[.int .i64 pc, .int .i64 ln, (.slice A0 L.length c0), .int .i64 fin, .int .i64 x, .int .i64 y, .int .i64 k] 25)).alloc (Obj.cells #[.int .i64 kd, .int .i64 ox, .int .i64 oy, .int .i64 ok, .int .i64 oa] 58)).alloc (Obj.cells #[.int .i64 0, .int .i64 0, .slice none 0 0, .int .i64 0, .int .i64 0, .int .i64 0, .int .i64 0] 25))).frozen? ⟨w.heap.size + 1 + 1, oo, none⟩ = false := (fz_new ((w.alloc (Obj.cells #[.int .i64 pc, .int .i64 ln, (.slice A0 L.length c0), .int .i64 fin, .int .i64 x, .int .i64 y, .int .i64 k] 25)).alloc (Obj.cells #[.int .i64 kd, .int .i64 ox, .int .i64 oy, .int .i64 ok, .int .i64 oa] 58)) #[.int .i64 0, .int .i64 0, .slice none 0 0, .int .i64 0, .int .i64 0, .int .i64 0, .int .i64 0] 25 (by first | rfl | (simp; done)))
  generalize (((w.alloc (Obj.cells #[.int .i64 pc, .int .i64 ln, (.slice A0 L.length c0), .int .i64 fin, .int .i64 x, .int .i64 y, .int .i64 k] 25)).alloc (Obj.cells #[.int .i64 kd, .int .i64 ox, .int .i64 oy, .int .i64 ok, .int .i64 oa] 58)).alloc (Obj.cells #[.int .i64 0, .int .i64 0, .slice none 0 0, .int .i64 0, .int .i64 0, .int .i64 0, .int .i64 0] 25)) = w0 at *
  have hK : Grew [] (.slice A0 L.length c0) (.slice A0 L.length c0) w w0 := (Grew.refl _ _ _).ext he0
  replace hG := hG.ext he0
  have k_b : Bk _ w0 _ _ := ⟨hBb_0, hFb_0, (fun q hq e => by have := (hGlt q hq).2; omega : ∀ q, Value.ownBlock (.slice A0 L.length c0) = some q → q ≠ w.heap.size), by omega⟩
  have k_o : Bk _ w0 _ _ := ⟨hBo_0, hFo_0, (fun q hq e => by have := (hGlt q hq).2; omega : ∀ q, Value.ownBlock (.slice A0 L.length c0) = some q → q ≠ w.heap.size + 1), by omega⟩
  have k_res : Bk _ w0 _ _ := ⟨hBres_0, hFres_0, (fun q hq e => by have := (hGlt q hq).2; omega : ∀ q, Value.ownBlock (.slice A0 L.length c0) = some q → q ≠ w.heap.size + 1 + 1), by omega⟩
  clear hGlt hBb_0 hFb_0 hBo_0 hFo_0 hBres_0 hFres_0
  unfold Fits at h1 h2 h3 h4 h5 h6 h7
  have yb := k_b.lt
  have xb0 := k_b.bx 0 _ rfl
  have xb1 := k_b.bx 1 _ rfl
  have xb2 := k_b.bx 2 _ rfl
  have xb3 := k_b.bx 3 _ rfl
  have xb4 := k_b.bx 4 _ rfl
  have xb5 := k_b.bx 5 _ rfl
  have xb6 := k_b.bx 6 _ rfl
  have fb := k_b.fz
  go_wp2_with fail
  clear xb0 xb1 xb2 xb3 xb4 xb5 xb6 yb
  clear fb
  refine (l7Get_any pc ln fin x y k L lo _ a _ hG (by omega) (by omega) (by unfold Fits; omega)).mono ?_
  rintro e w1 ⟨A1, c1, L1, m1, rfl, hm1, hL1, hG9, hy⟩
  have HM1 := hide hm1
  have bm1 : m1 ≤ L.length + 1 := by omega
  clear hm1
  have HL1 := hide hL1
  have bl1 : L1.length ≤ L.length + 1 := by rw [hL1]; simp [lowOps]
  clear hL1
  have hs1 := hy.size
  replace hK := hK.trans hy
  replace hG := hG9
  replace k_b := k_b.grew hy
  replace k_o := k_o.grew hy
  replace k_res := k_res.grew hy
  clear hy
  go_upto_region 2 with fail
  generalize ho : Obj.cells #[.int .i64 pc, .int .i64 ln, (.slice A1 L1.length c1), .int .i64 fin, .int .i64 x, .int .i64 y, .int .i64 k] 25 = o
  have k_b1 := Bk.new hG ho
  replace hK := hK.alloc o
  replace hG := hG.alloc o
  have hs2 : w1.heap.size + 1 ≤ (w1.alloc o).heap.size := by simp
  replace k_b := k_b.alloc o
  replace k_o := k_o.alloc o
  replace k_res := k_res.alloc o
  generalize w1.alloc o = w2 at *
  clear ho
  have yb1 := k_b1.lt
  have xb10 := k_b1.bx 0 _ rfl
  have xb11 := k_b1.bx 1 _ rfl
  have xb12 := k_b1.bx 2 _ rfl
  have xb13 := k_b1.bx 3 _ rfl
  have xb14 := k_b1.bx 4 _ rfl
  have xb15 := k_b1.bx 5 _ rfl
  have xb16 := k_b1.bx 6 _ rfl
  have fb1 := k_b1.fz
  have yo := k_o.lt
  have xo0 := k_o.bx 0 _ rfl
  have xo1 := k_o.bx 1 _ rfl
  have xo2 := k_o.bx 2 _ rfl
  have xo3 := k_o.bx 3 _ rfl
  have xo4 := k_o.bx 4 _ rfl
  have fo := k_o.fz
  go_wp2_with fail
  clear xb10 xb11 xb12 xb13 xb14 xb15 xb16 yb1
  clear fb1
  clear xo0 xo1 xo2 xo3 xo4 yo
  clear fo
  refine (l7Put_any pc ln fin x y k L1 lo _ kd ox oy ok oa _ hG (by omega) (by omega) (by unfold Fits; omega) (by unfold Fits; omega) (by unfold Fits; omega) (by unfold Fits; omega) (by unfold Fits; omega)).mono ?_
  rintro e w3 ⟨A3, c3, L3, m3, rfl, hm3, hL3, hG9, hy⟩
  have HM3 := hide hm3
  have bm3 : m3 ≤ L1.length + 1 := by omega
  clear hm3
  have HL3 := hide hL3
  have bl3 : L3.length ≤ L1.length + 1 := by rw [hL3]; simp [lowOps]
  clear hL3
  have hs3 := hy.size
  replace hK := hK.trans hy
  replace hG := hG9
  replace k_b := k_b.grew hy
  replace k_o := k_o.grew hy
  replace k_res := k_res.grew hy
  replace k_b1 := k_b1.grew hy
  clear hy
  go_upto_region 3 with fail
  generalize ho : Obj.cells #[.int .i64 pc, .int .i64 ln, (.slice A3 L3.length c3), .int .i64 fin, .int .i64 x, .int .i64 y, .int .i64 k] 25 = o
  have k_b2 := Bk.new hG ho
  replace hK := hK.alloc o
  replace hG := hG.alloc o
  have hs4 : w3.heap.size + 1 ≤ (w3.alloc o).heap.size := by simp
  replace k_b := k_b.alloc o
  replace k_o := k_o.alloc o
  replace k_res := k_res.alloc o
  replace k_b1 := k_b1.alloc o
  generalize w3.alloc o = w4 at *
  clear ho
  have yb2 := k_b2.lt
  have xb20 := k_b2.bx 0 _ rfl
  have xb21 := k_b2.bx 1 _ rfl
  have xb22 := k_b2.bx 2 _ rfl
  have xb23 := k_b2.bx 3 _ rfl
  have xb24 := k_b2.bx 4 _ rfl
  have xb25 := k_b2.bx 5 _ rfl
  have xb26 := k_b2.bx 6 _ rfl
  have fb2 := k_b2.fz
  go_wp2_with fail
  clear xb20 xb21 xb22 xb23 xb24 xb25 xb26 yb2
  clear fb2
  refine (l7Put_any pc ln fin x y k L3 lo _ 3 m1 m3 op 0 _ hG (by omega) (by omega) (by unfold Fits; omega) (by unfold Fits; omega) (by unfold Fits; omega) (by unfold Fits; omega) (by unfold Fits; omega)).mono ?_
  rintro e w5 ⟨A5, c5, L5, m5, rfl, hm5, hL5, hG9, hy⟩
  have HM5 := hide hm5
  have bm5 : m5 ≤ L3.length + 1 := by omega
  clear hm5
  have HL5 := hide hL5
  have bl5 : L5.length ≤ L3.length + 1 := by rw [hL5]; simp [lowOps]
  clear hL5
  have hs5 := hy.size
  replace hK := hK.trans hy
  replace hG := hG9
  replace k_b := k_b.grew hy
  replace k_o := k_o.grew hy
  replace k_res := k_res.grew hy
  replace k_b1 := k_b1.grew hy
  replace k_b2 := k_b2.grew hy
  clear hy
  have yres := k_res.lt
  have xres0 := k_res.bx 0 _ rfl
  have xres1 := k_res.bx 1 _ rfl
  have xres2 := k_res.bx 2 _ rfl
  have xres3 := k_res.bx 3 _ rfl
  have xres4 := k_res.bx 4 _ rfl
  have xres5 := k_res.bx 5 _ rfl
  have xres6 := k_res.bx 6 _ rfl
  have fres := k_res.fz
  go_wp2
  refine bodyPost_ret (v := .tuple #[.agg #[.int .i64 pc, .int .i64 ln, (.slice A5 L5.length c5), .int .i64 fin, .int .i64 x, .int .i64 y, .int .i64 k], .int .i64 (m5 : Int)]) (by simp [results, Try.results128, go_sem, xres0, xres1, xres2, xres3, xres4, xres5, xres6]) rfl ⟨_, _, L5, m5, rfl, by rw [HM5.out, HL3.out, HL1.out]; simp, by rw [HL5.out, HM1.out, HM3.out, HL3.out, HL1.out]; simp, Gro.hold hG, Grew.hold hK⟩

theorem l7Twice_any (k : Int) (h0 : 0 ≤ k) (h1 : k ≤ 15) (w : World) : Calls Try.prog 129 #[.int .i64 k] w fun e w' => e = .returned (.int .i64 (2 ^ k.toNat)) ∧ w = w' := by
  obtain ⟨K, rfl⟩ := Int.eq_ofNat_of_zero_le h0
  go_enter Try.func129, Try.ntmps129
  go_wp2
  go_loopw [3, 4] (fun vn vj wz => ∃ j : Nat, vn = .int .i64 (2 ^ j) ∧ vj = .int .i64 (j : Int) ∧ j ≤ K ∧ Ext w wz ∧ Hid (w = wz)) (fun _ vj _ => K - (intOf vj).toNat)
  case atStart => exact ⟨0, rfl, rfl, by omega, Ext.refl _, rfl⟩
  case round =>
    obtain ⟨j, rfl, rfl, hj, -, hwz⟩ := hrel
    have hwz := hwz.out
    subst hwz
    by_cases hlt : j < K
    · have q1 : decide ((j : Int) < (K : Int)) = true := decide_eq_true (by omega)
      have hp : (2 : Int) ^ j ≤ 2 ^ 14 := by exact_mod_cast Nat.pow_le_pow_right (by omega) (by omega)
      have hp0 : (0 : Int) < 2 ^ j := by exact_mod_cast Nat.pow_pos (by omega)
      have zw : IntKind.i64.wrap ((2 : Int) ^ j + 2 ^ j) = 2 ^ (j + 1) := by rw [IntKind.wrap_i64, Int.pow_succ]; omega
      go_wp2
      go_round
      case rel => exact ⟨j + 1, rfl, by go_num, by omega, Ext.refl _, by first | exact hide True.intro | exact hide rfl⟩
      case measure => (simp [intOf]; try omega)
    · have q1 : decide ((j : Int) < (K : Int)) = false := decide_eq_false (by omega)
      obtain rfl : j = K := by omega
      go_wp2
      go_ret
      exact ⟨rfl, rfl⟩

set_option maxHeartbeats 16000000 in
theorem l7Reach_any (pc ln fin x y k : Int) (L : List IrOp) (lo : Nat) (v : Value) (op d a kk at_ : Int) (w : World) (hG : Gro 58 lo w v L) (hlen : L.length ≤ 980) (hlo : lo ≤ w.heap.size) (h0 : op = 9 ∨ op = 10) (h1 : 0 ≤ d ∧ d ≤ 3) (h2 : 0 ≤ a ∧ a ≤ 3) (h3 : 0 ≤ kk ∧ kk ≤ 255) (h4 : 0 ≤ at_ ∧ at_ ≤ 100) :
    Calls Try.prog 130 #[.agg #[.int .i64 pc, .int .i64 ln, v, .int .i64 fin, .int .i64 x, .int .i64 y, .int .i64 k], .agg #[.int .i64 op, .int .i64 d, .int .i64 a, .int .i64 kk], .int .i64 at_] w fun e w' => ∃ (A : Option Addr) (c : Nat) (L' : List IrOp), e = .returned (.agg #[.int .i64 pc, .int .i64 ln, (.slice A L'.length c), .int .i64 fin, .int .i64 x, .int .i64 y, .int .i64 k]) ∧ L' = L ++ lowOps L.length ⟨op, d, a, kk⟩ at_ ∧ Gro 58 lo w' (.slice A L'.length c) L' ∧ Grew [] v (.slice A L'.length c) w w' := by
  obtain ⟨A0, c0, rfl, hlc, hcm⟩ := hG.form
  have hGlt := hG.lt
  go_enter Try.func130, Try.ntmps130
  go_upto_region 1 with fail
  have he0 : Ext w (((w.alloc (Obj.cells #[.int .i64 pc, .int .i64 ln, (.slice A0 L.length c0), .int .i64 fin, .int .i64 x, .int .i64 y, .int .i64 k] 25)).alloc (Obj.cells #[.int .i64 op, .int .i64 d, .int .i64 a, .int .i64 kk] 114)).alloc (Obj.cells #[.int .i64 0, .int .i64 0, .slice none 0 0, .int .i64 0, .int .i64 0, .int .i64 0, .int .i64 0] 25)) := (Ext.auto)
  have hs0 : w.heap.size + 3 ≤ ((((w.alloc (Obj.cells #[.int .i64 pc, .int .i64 ln, (.slice A0 L.length c0), .int .i64 fin, .int .i64 x, .int .i64 y, .int .i64 k] 25)).alloc (Obj.cells #[.int .i64 op, .int .i64 d, .int .i64 a, .int .i64 kk] 114)).alloc (Obj.cells #[.int .i64 0, .int .i64 0, .slice none 0 0, .int .i64 0, .int .i64 0, .int .i64 0, .int .i64 0] 25))).heap.size := by simp
  have hq0 := hide (show ((((w.alloc (Obj.cells #[.int .i64 pc, .int .i64 ln, (.slice A0 L.length c0), .int .i64 fin, .int .i64 x, .int .i64 y, .int .i64 k] 25)).alloc (Obj.cells #[.int .i64 op, .int .i64 d, .int .i64 a, .int .i64 kk] 114)).alloc (Obj.cells #[.int .i64 0, .int .i64 0, .slice none 0 0, .int .i64 0, .int .i64 0, .int .i64 0, .int .i64 0] 25))).heap.size = w.heap.size + 3 by simp)
  have hBb_0 : Bx (((w.alloc (Obj.cells #[.int .i64 pc, .int .i64 ln, (.slice A0 L.length c0), .int .i64 fin, .int .i64 x, .int .i64 y, .int .i64 k] 25)).alloc (Obj.cells #[.int .i64 op, .int .i64 d, .int .i64 a, .int .i64 kk] 114)).alloc (Obj.cells #[.int .i64 0, .int .i64 0, .slice none 0 0, .int .i64 0, .int .i64 0, .int .i64 0, .int .i64 0] 25)) (w.heap.size) [.int .i64 pc, .int .i64 ln, (.slice A0 L.length c0), .int .i64 fin, .int .i64 x, .int .i64 y, .int .i64 k] := (by have := (Bx.alloc (Bx.alloc (Bx.new w #[.int .i64 pc, .int .i64 ln, (.slice A0 L.length c0), .int .i64 fin, .int .i64 x, .int .i64 y, .int .i64 k] 25) (by simp) #[.int .i64 op, .int .i64 d, .int .i64 a, .int .i64 kk] 114) (by first | (simp; done) | (simp; omega)) #[.int .i64 0, .int .i64 0, .slice none 0 0, .int .i64 0, .int .i64 0, .int .i64 0, .int .i64 0] 25); simpa using this)
  have hFb_0 : ∀ oo, ((((w.alloc (Obj.cells #[.int .i64 pc, .int .i64 ln, (.slice A0 L.length c0), .int .i64 fin, .int .i64 x, .int .i64 y, .int .i64 k] 25)).alloc (Obj.cells #[.int .i64 op, .int .i64 d, .int .i64 a, .int .i64 kk] 114)).alloc (Obj.cells #[.int .i64 0, .int .i64 0, .slice none 0 0, .int .i64 0, .int .i64 0, .int .i64 0, .int .i64 0] 25))).frozen? ⟨w.heap.size, oo, none⟩ = false := (fz_alloc (fz_alloc (fz_new w #[.int .i64 pc, .int .i64 ln, (.slice A0 L.length c0), .int .i64 fin, .int .i64 x, .int .i64 y, .int .i64 k] 25 (by first | rfl | (simp; done))) (by first | (simp; done) | (simp; omega)) (Obj.cells #[.int .i64 op, .int .i64 d, .int .i64 a, .int .i64 kk] 114)) (by first | (simp; done) | (simp; omega)) (Obj.cells #[.int .i64 0, .int .i64 0, .slice none 0 0, .int .i64 0, .int .i64 0, .int .i64 0, .int .i64 0] 25))
  have hBi_0 : Bx (((w.alloc (Obj.cells #[.int .i64 pc, .int .i64 ln, (.slice A0 L.length c0), .int .i64 fin, .int .i64 x, .int .i64 y, .int .i64 k] 25)).alloc (Obj.cells #[.int .i64 op, .int .i64 d, .int .i64 a, .int .i64 kk] 114)).alloc (Obj.cells #[.int .i64 0, .int .i64 0, .slice none 0 0, .int .i64 0, .int .i64 0, .int .i64 0, .int .i64 0] 25)) (w.heap.size + 1) [.int .i64 op, .int .i64 d, .int .i64 a, .int .i64 kk] := (by have := (Bx.alloc (Bx.new (w.alloc (Obj.cells #[.int .i64 pc, .int .i64 ln, (.slice A0 L.length c0), .int .i64 fin, .int .i64 x, .int .i64 y, .int .i64 k] 25)) #[.int .i64 op, .int .i64 d, .int .i64 a, .int .i64 kk] 114) (by simp) #[.int .i64 0, .int .i64 0, .slice none 0 0, .int .i64 0, .int .i64 0, .int .i64 0, .int .i64 0] 25); simpa using this)
  have hFi_0 : ∀ oo, ((((w.alloc (Obj.cells #[.int .i64 pc, .int .i64 ln, (.slice A0 L.length c0), .int .i64 fin, .int .i64 x, .int .i64 y, .int .i64 k] 25)).alloc (Obj.cells #[.int .i64 op, .int .i64 d, .int .i64 a, .int .i64 kk] 114)).alloc (Obj.cells #[.int .i64 0, .int .i64 0, .slice none 0 0, .int .i64 0, .int .i64 0, .int .i64 0, .int .i64 0] 25))).frozen? ⟨w.heap.size + 1, oo, none⟩ = false := (fz_alloc (fz_new (w.alloc (Obj.cells #[.int .i64 pc, .int .i64 ln, (.slice A0 L.length c0), .int .i64 fin, .int .i64 x, .int .i64 y, .int .i64 k] 25)) #[.int .i64 op, .int .i64 d, .int .i64 a, .int .i64 kk] 114 (by first | rfl | (simp; done))) (by first | (simp; done) | (simp; omega)) (Obj.cells #[.int .i64 0, .int .i64 0, .slice none 0 0, .int .i64 0, .int .i64 0, .int .i64 0, .int .i64 0] 25))
  have hBres_0 : Bx (((w.alloc (Obj.cells #[.int .i64 pc, .int .i64 ln, (.slice A0 L.length c0), .int .i64 fin, .int .i64 x, .int .i64 y, .int .i64 k] 25)).alloc (Obj.cells #[.int .i64 op, .int .i64 d, .int .i64 a, .int .i64 kk] 114)).alloc (Obj.cells #[.int .i64 0, .int .i64 0, .slice none 0 0, .int .i64 0, .int .i64 0, .int .i64 0, .int .i64 0] 25)) (w.heap.size + 1 + 1) [.int .i64 0, .int .i64 0, .slice none 0 0, .int .i64 0, .int .i64 0, .int .i64 0, .int .i64 0] := (by have := (Bx.new ((w.alloc (Obj.cells #[.int .i64 pc, .int .i64 ln, (.slice A0 L.length c0), .int .i64 fin, .int .i64 x, .int .i64 y, .int .i64 k] 25)).alloc (Obj.cells #[.int .i64 op, .int .i64 d, .int .i64 a, .int .i64 kk] 114)) #[.int .i64 0, .int .i64 0, .slice none 0 0, .int .i64 0, .int .i64 0, .int .i64 0, .int .i64 0] 25); simpa using this)
  have hFres_0 : ∀ oo, ((((w.alloc (Obj.cells #[.int .i64 pc, .int .i64 ln, (.slice A0 L.length c0), .int .i64 fin, .int .i64 x, .int .i64 y, .int .i64 k] 25)).alloc (Obj.cells #[.int .i64 op, .int .i64 d, .int .i64 a, .int .i64 kk] 114)).alloc (Obj.cells #[.int .i64 0, .int .i64 0, .slice none 0 0, .int .i64 0, .int .i64 0, .int .i64 0, .int .i64 0] 25))).frozen? ⟨w.heap.size + 1 + 1, oo, none⟩ = false := (fz_new ((w.alloc (Obj.cells #[.int .i64 pc, .int .i64 ln, (.slice A0 L.length c0), .int .i64 fin, .int .i64 x, .int .i64 y, .int .i64 k] 25)).alloc (Obj.cells #[.int .i64 op, .int .i64 d, .int .i64 a, .int .i64 kk] 114)) #[.int .i64 0, .int .i64 0, .slice none 0 0, .int .i64 0, .int .i64 0, .int .i64 0, .int .i64 0] 25 (by first | rfl | (simp; done)))
  generalize (((w.alloc (Obj.cells #[.int .i64 pc, .int .i64 ln, (.slice A0 L.length c0), .int .i64 fin, .int .i64 x, .int .i64 y, .int .i64 k] 25)).alloc (Obj.cells #[.int .i64 op, .int .i64 d, .int .i64 a, .int .i64 kk] 114)).alloc (Obj.cells #[.int .i64 0, .int .i64 0, .slice none 0 0, .int .i64 0, .int .i64 0, .int .i64 0, .int .i64 0] 25)) = w0 at *
  have hK : Grew [] (.slice A0 L.length c0) (.slice A0 L.length c0) w w0 := (Grew.refl _ _ _).ext he0
  replace hG := hG.ext he0
  have k_b : Bk _ w0 _ _ := ⟨hBb_0, hFb_0, (fun q hq e => by have := (hGlt q hq).2; omega : ∀ q, Value.ownBlock (.slice A0 L.length c0) = some q → q ≠ w.heap.size), by omega⟩
  have k_i : Bk _ w0 _ _ := ⟨hBi_0, hFi_0, (fun q hq e => by have := (hGlt q hq).2; omega : ∀ q, Value.ownBlock (.slice A0 L.length c0) = some q → q ≠ w.heap.size + 1), by omega⟩
  have k_res : Bk _ w0 _ _ := ⟨hBres_0, hFres_0, (fun q hq e => by have := (hGlt q hq).2; omega : ∀ q, Value.ownBlock (.slice A0 L.length c0) = some q → q ≠ w.heap.size + 1 + 1), by omega⟩
  clear hGlt hBb_0 hFb_0 hBi_0 hFi_0 hBres_0 hFres_0
  rcases h0 with rfl | rfl
  · 
    have yb := k_b.lt
    have xb0 := k_b.bx 0 _ rfl
    have xb1 := k_b.bx 1 _ rfl
    have xb2 := k_b.bx 2 _ rfl
    have xb3 := k_b.bx 3 _ rfl
    have xb4 := k_b.bx 4 _ rfl
    have xb5 := k_b.bx 5 _ rfl
    have xb6 := k_b.bx 6 _ rfl
    have fb := k_b.fz
    have yi := k_i.lt
    have xi0 := k_i.bx 0 _ rfl
    have xi1 := k_i.bx 1 _ rfl
    have xi2 := k_i.bx 2 _ rfl
    have xi3 := k_i.bx 3 _ rfl
    have fi := k_i.fz
    go_wp2_with fail
    clear xb0 xb1 xb2 xb3 xb4 xb5 xb6 yb
    clear fb
    clear xi0 xi1 xi2 xi3 yi
    clear fi
    refine (l7Reckon_any pc ln fin x y k L lo _ 1 a 1 0 0 kk 0 _ hG (by omega) (by omega) (by unfold Fits; omega) (by unfold Fits; omega) (by unfold Fits; omega) (by unfold Fits; omega) (by unfold Fits; omega) (by unfold Fits; omega) (by unfold Fits; omega)).mono ?_
    rintro e w1 ⟨A1, c1, L1, m1, rfl, hm1, hL1, hG9, hy⟩
    have HM1 := hide hm1
    have bm1 : m1 ≤ L.length + 3 := by omega
    clear hm1
    have HL1 := hide hL1
    have bl1 : L1.length ≤ L.length + 3 := by rw [hL1]; simp [lowOps]
    clear hL1
    have hs1 := hy.size
    replace hK := hK.trans hy
    replace hG := hG9
    replace k_b := k_b.grew hy
    replace k_i := k_i.grew hy
    replace k_res := k_res.grew hy
    clear hy
    go_upto_region 2 with fail
    generalize ho : Obj.cells #[.int .i64 pc, .int .i64 ln, (.slice A1 L1.length c1), .int .i64 fin, .int .i64 x, .int .i64 y, .int .i64 k] 25 = o
    have k_b1 := Bk.new hG ho
    replace hK := hK.alloc o
    replace hG := hG.alloc o
    have hs2 : w1.heap.size + 1 ≤ (w1.alloc o).heap.size := by simp
    replace k_b := k_b.alloc o
    replace k_i := k_i.alloc o
    replace k_res := k_res.alloc o
    generalize w1.alloc o = w2 at *
    clear ho
    have yb1 := k_b1.lt
    have xb10 := k_b1.bx 0 _ rfl
    have xb11 := k_b1.bx 1 _ rfl
    have xb12 := k_b1.bx 2 _ rfl
    have xb13 := k_b1.bx 3 _ rfl
    have xb14 := k_b1.bx 4 _ rfl
    have xb15 := k_b1.bx 5 _ rfl
    have xb16 := k_b1.bx 6 _ rfl
    have fb1 := k_b1.fz
    have yi := k_i.lt
    have xi0 := k_i.bx 0 _ rfl
    have xi1 := k_i.bx 1 _ rfl
    have xi2 := k_i.bx 2 _ rfl
    have xi3 := k_i.bx 3 _ rfl
    have fi := k_i.fz
    go_wp2_with fail
    clear xb10 xb11 xb12 xb13 xb14 xb15 xb16 yb1
    clear fb1
    clear xi0 xi1 xi2 xi3 yi
    clear fi
    refine (l7Put_any pc ln fin x y k L1 lo _ 4 m1 0 0 at_ _ hG (by omega) (by omega) (by unfold Fits; omega) (by unfold Fits; omega) (by unfold Fits; omega) (by unfold Fits; omega) (by unfold Fits; omega)).mono ?_
    rintro e w3 ⟨A3, c3, L3, m3, rfl, hm3, hL3, hG9, hy⟩
    have HM3 := hide hm3
    have bm3 : m3 ≤ L1.length + 1 := by omega
    clear hm3
    have HL3 := hide hL3
    have bl3 : L3.length ≤ L1.length + 1 := by rw [hL3]; simp [lowOps]
    clear hL3
    have hs3 := hy.size
    replace hK := hK.trans hy
    replace hG := hG9
    replace k_b := k_b.grew hy
    replace k_i := k_i.grew hy
    replace k_res := k_res.grew hy
    replace k_b1 := k_b1.grew hy
    clear hy
    go_upto_region 4 with fail
    generalize ho : Obj.cells #[.int .i64 pc, .int .i64 ln, (.slice A3 L3.length c3), .int .i64 fin, .int .i64 x, .int .i64 y, .int .i64 k] 25 = o
    have k_b2 := Bk.new hG ho
    replace hK := hK.alloc o
    replace hG := hG.alloc o
    have hs4 : w3.heap.size + 1 ≤ (w3.alloc o).heap.size := by simp
    replace k_b := k_b.alloc o
    replace k_i := k_i.alloc o
    replace k_res := k_res.alloc o
    replace k_b1 := k_b1.alloc o
    generalize w3.alloc o = w4 at *
    clear ho
    have yb2 := k_b2.lt
    have xb20 := k_b2.bx 0 _ rfl
    have xb21 := k_b2.bx 1 _ rfl
    have xb22 := k_b2.bx 2 _ rfl
    have xb23 := k_b2.bx 3 _ rfl
    have xb24 := k_b2.bx 4 _ rfl
    have xb25 := k_b2.bx 5 _ rfl
    have xb26 := k_b2.bx 6 _ rfl
    have fb2 := k_b2.fz
    have yi := k_i.lt
    have xi0 := k_i.bx 0 _ rfl
    have xi1 := k_i.bx 1 _ rfl
    have xi2 := k_i.bx 2 _ rfl
    have xi3 := k_i.bx 3 _ rfl
    have fi := k_i.fz
    go_wp2_with fail
    clear xb20 xb21 xb22 xb23 xb24 xb25 xb26 yb2
    clear fb2
    clear xi0 xi1 xi2 xi3 yi
    clear fi
    refine (l7Set_any pc ln fin x y k L3 lo _ d m3 _ hG (by omega) (by omega) (by unfold Fits; omega) (by unfold Fits; omega)).mono ?_
    rintro e w5 ⟨A5, c5, L5, rfl, hL5, hG9, hy⟩
    have HL5 := hide hL5
    have bl5 : L5.length ≤ L3.length + 1 := by rw [hL5]; simp [lowOps]
    clear hL5
    have hs5 := hy.size
    replace hK := hK.trans hy
    replace hG := hG9
    replace k_b := k_b.grew hy
    replace k_i := k_i.grew hy
    replace k_res := k_res.grew hy
    replace k_b1 := k_b1.grew hy
    replace k_b2 := k_b2.grew hy
    clear hy
    have yres := k_res.lt
    have xres0 := k_res.bx 0 _ rfl
    have xres1 := k_res.bx 1 _ rfl
    have xres2 := k_res.bx 2 _ rfl
    have xres3 := k_res.bx 3 _ rfl
    have xres4 := k_res.bx 4 _ rfl
    have xres5 := k_res.bx 5 _ rfl
    have xres6 := k_res.bx 6 _ rfl
    have fres := k_res.fz
    go_wp2
    refine bodyPost_ret (v := .agg #[.int .i64 pc, .int .i64 ln, (.slice A5 L5.length c5), .int .i64 fin, .int .i64 x, .int .i64 y, .int .i64 k]) (by simp [results, Try.results130, go_sem, xres0, xres1, xres2, xres3, xres4, xres5, xres6]) rfl ⟨_, _, L5, rfl, (by rw [HL5.out, HM3.out, HL3.out, HM1.out, HL1.out]; simp [lowOps, oGet, oConst, oDo, oSet]; try omega), Gro.hold hG, Grew.hold hK⟩
  · 
    have yb := k_b.lt
    have xb0 := k_b.bx 0 _ rfl
    have xb1 := k_b.bx 1 _ rfl
    have xb2 := k_b.bx 2 _ rfl
    have xb3 := k_b.bx 3 _ rfl
    have xb4 := k_b.bx 4 _ rfl
    have xb5 := k_b.bx 5 _ rfl
    have xb6 := k_b.bx 6 _ rfl
    have fb := k_b.fz
    have yi := k_i.lt
    have xi0 := k_i.bx 0 _ rfl
    have xi1 := k_i.bx 1 _ rfl
    have xi2 := k_i.bx 2 _ rfl
    have xi3 := k_i.bx 3 _ rfl
    have fi := k_i.fz
    go_wp2_with fail
    clear xb0 xb1 xb2 xb3 xb4 xb5 xb6 yb
    clear fb
    clear xi0 xi1 xi2 xi3 yi
    clear fi
    refine (l7Reckon_any pc ln fin x y k L lo _ 1 a 1 0 0 kk 0 _ hG (by omega) (by omega) (by unfold Fits; omega) (by unfold Fits; omega) (by unfold Fits; omega) (by unfold Fits; omega) (by unfold Fits; omega) (by unfold Fits; omega) (by unfold Fits; omega)).mono ?_
    rintro e w1 ⟨A1, c1, L1, m1, rfl, hm1, hL1, hG9, hy⟩
    have HM1 := hide hm1
    have bm1 : m1 ≤ L.length + 3 := by omega
    clear hm1
    have HL1 := hide hL1
    have bl1 : L1.length ≤ L.length + 3 := by rw [hL1]; simp [lowOps]
    clear hL1
    have hs1 := hy.size
    replace hK := hK.trans hy
    replace hG := hG9
    replace k_b := k_b.grew hy
    replace k_i := k_i.grew hy
    replace k_res := k_res.grew hy
    clear hy
    go_upto_region 2 with fail
    generalize ho : Obj.cells #[.int .i64 pc, .int .i64 ln, (.slice A1 L1.length c1), .int .i64 fin, .int .i64 x, .int .i64 y, .int .i64 k] 25 = o
    have k_b1 := Bk.new hG ho
    replace hK := hK.alloc o
    replace hG := hG.alloc o
    have hs2 : w1.heap.size + 1 ≤ (w1.alloc o).heap.size := by simp
    replace k_b := k_b.alloc o
    replace k_i := k_i.alloc o
    replace k_res := k_res.alloc o
    generalize w1.alloc o = w2 at *
    clear ho
    have yb1 := k_b1.lt
    have xb10 := k_b1.bx 0 _ rfl
    have xb11 := k_b1.bx 1 _ rfl
    have xb12 := k_b1.bx 2 _ rfl
    have xb13 := k_b1.bx 3 _ rfl
    have xb14 := k_b1.bx 4 _ rfl
    have xb15 := k_b1.bx 5 _ rfl
    have xb16 := k_b1.bx 6 _ rfl
    have fb1 := k_b1.fz
    have yi := k_i.lt
    have xi0 := k_i.bx 0 _ rfl
    have xi1 := k_i.bx 1 _ rfl
    have xi2 := k_i.bx 2 _ rfl
    have xi3 := k_i.bx 3 _ rfl
    have fi := k_i.fz
    go_wp2_with fail
    clear xb10 xb11 xb12 xb13 xb14 xb15 xb16 yb1
    clear fb1
    clear xi0 xi1 xi2 xi3 yi
    clear fi
    refine (l7Get_any pc ln fin x y k L1 lo _ d _ hG (by omega) (by omega) (by unfold Fits; omega)).mono ?_
    rintro e w3 ⟨A3, c3, L3, m3, rfl, hm3, hL3, hG9, hy⟩
    have HM3 := hide hm3
    have bm3 : m3 ≤ L1.length + 1 := by omega
    clear hm3
    have HL3 := hide hL3
    have bl3 : L3.length ≤ L1.length + 1 := by rw [hL3]; simp [lowOps]
    clear hL3
    have hs3 := hy.size
    replace hK := hK.trans hy
    replace hG := hG9
    replace k_b := k_b.grew hy
    replace k_i := k_i.grew hy
    replace k_res := k_res.grew hy
    replace k_b1 := k_b1.grew hy
    clear hy
    go_upto_region 6 with fail
    generalize ho : Obj.cells #[.int .i64 pc, .int .i64 ln, (.slice A3 L3.length c3), .int .i64 fin, .int .i64 x, .int .i64 y, .int .i64 k] 25 = o
    have k_b2 := Bk.new hG ho
    replace hK := hK.alloc o
    replace hG := hG.alloc o
    have hs4 : w3.heap.size + 1 ≤ (w3.alloc o).heap.size := by simp
    replace k_b := k_b.alloc o
    replace k_i := k_i.alloc o
    replace k_res := k_res.alloc o
    replace k_b1 := k_b1.alloc o
    generalize w3.alloc o = w4 at *
    clear ho
    have yb2 := k_b2.lt
    have xb20 := k_b2.bx 0 _ rfl
    have xb21 := k_b2.bx 1 _ rfl
    have xb22 := k_b2.bx 2 _ rfl
    have xb23 := k_b2.bx 3 _ rfl
    have xb24 := k_b2.bx 4 _ rfl
    have xb25 := k_b2.bx 5 _ rfl
    have xb26 := k_b2.bx 6 _ rfl
    have fb2 := k_b2.fz
    go_wp2_with fail
    clear xb20 xb21 xb22 xb23 xb24 xb25 xb26 yb2
    clear fb2
    refine (l7Put_any pc ln fin x y k L3 lo _ 5 m1 m3 0 at_ _ hG (by omega) (by omega) (by unfold Fits; omega) (by unfold Fits; omega) (by unfold Fits; omega) (by unfold Fits; omega) (by unfold Fits; omega)).mono ?_
    rintro e w5 ⟨A5, c5, L5, m5, rfl, hm5, hL5, hG9, hy⟩
    have HM5 := hide hm5
    have bm5 : m5 ≤ L3.length + 1 := by omega
    clear hm5
    have HL5 := hide hL5
    have bl5 : L5.length ≤ L3.length + 1 := by rw [hL5]; simp [lowOps]
    clear hL5
    have hs5 := hy.size
    replace hK := hK.trans hy
    replace hG := hG9
    replace k_b := k_b.grew hy
    replace k_i := k_i.grew hy
    replace k_res := k_res.grew hy
    replace k_b1 := k_b1.grew hy
    replace k_b2 := k_b2.grew hy
    clear hy
    go_upto_region 7 with fail
    generalize ho : Obj.cells #[.int .i64 pc, .int .i64 ln, (.slice A5 L5.length c5), .int .i64 fin, .int .i64 x, .int .i64 y, .int .i64 k] 25 = o
    have k_b3 := Bk.new hG ho
    replace hK := hK.alloc o
    replace hG := hG.alloc o
    have hs6 : w5.heap.size + 1 ≤ (w5.alloc o).heap.size := by simp
    replace k_b := k_b.alloc o
    replace k_i := k_i.alloc o
    replace k_res := k_res.alloc o
    replace k_b1 := k_b1.alloc o
    replace k_b2 := k_b2.alloc o
    generalize w5.alloc o = w6 at *
    clear ho
    have yb3 := k_b3.lt
    have xb30 := k_b3.bx 0 _ rfl
    have xb31 := k_b3.bx 1 _ rfl
    have xb32 := k_b3.bx 2 _ rfl
    have xb33 := k_b3.bx 3 _ rfl
    have xb34 := k_b3.bx 4 _ rfl
    have xb35 := k_b3.bx 5 _ rfl
    have xb36 := k_b3.bx 6 _ rfl
    have fb3 := k_b3.fz
    have yres := k_res.lt
    have xres0 := k_res.bx 0 _ rfl
    have xres1 := k_res.bx 1 _ rfl
    have xres2 := k_res.bx 2 _ rfl
    have xres3 := k_res.bx 3 _ rfl
    have xres4 := k_res.bx 4 _ rfl
    have xres5 := k_res.bx 5 _ rfl
    have xres6 := k_res.bx 6 _ rfl
    have fres := k_res.fz
    go_wp2
    refine bodyPost_ret (v := .agg #[.int .i64 pc, .int .i64 ln, (.slice A5 L5.length c5), .int .i64 fin, .int .i64 x, .int .i64 y, .int .i64 k]) (by simp [results, Try.results130, go_sem, xres0, xres1, xres2, xres3, xres4, xres5, xres6]) rfl ⟨_, _, L5, rfl, (by rw [HL5.out, HM3.out, HM1.out, HL3.out, HL1.out]; simp [lowOps, oGet, oConst, oDo, oSet]; try omega), Gro.hold hG, Grew.hold hK⟩

end Go.Proofs.Yteaacelfnkiboaa
