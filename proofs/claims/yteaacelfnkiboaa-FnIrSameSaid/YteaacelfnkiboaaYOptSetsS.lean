/-
  OptSetsS
-/
import Derived.Test.YteaacelfnkiboaaYLost
import Derived.Test.YteaacelfnkiboaaYOptDead
namespace Go.Proofs.Yteaacelfnkiboaa
open Go.RowKit

set_option linter.unusedVariables false
set_option linter.unusedSimpArgs false
set_option maxRecDepth 100000

theorem dropSets_any (b : IrBlock) (v vk : Value) (w : World) (h : Sl w (Old w) v b.ops) (hkk : Sl w (Old w) vk (keptL b.ops)) (hok : irOkB b = true) :
    Calls Try.prog 119 #[.agg #[.int .i64 b.pc, .int .i64 b.len, v, .int .i64 b.fin, .int .i64 b.x, .int .i64 b.y, .int .i64 b.k], vk] w fun e w' => ∃ r1 F, e = .returned (.agg #[.int .i64 ((optSets b).pc), .int .i64 ((optSets b).len), r1, .int .i64 ((optSets b).fin), .int .i64 ((optSets b).x), .int .i64 ((optSets b).y), .int .i64 ((optSets b).k)]) ∧ OwnSl w' r1 (optSets b).ops F ∧ Fr w w' F ∧ Ext w w' := by
  have q := l10Drop_any b (keptL b.ops) v vk w h hkk hok (keptL_length _)
  rw [← optSets_eq hok] at q
  exact q

set_option maxHeartbeats 16000000 in
theorem specOptSets_any (b : IrBlock) (vb1 : Value) (w : World) (hb1 : Sl w (Old w) vb1 b.ops) (hkb : b.Ok) :
    Calls Try.prog 102 #[.agg #[.int .i64 b.pc, .int .i64 b.len, vb1, .int .i64 b.fin, .int .i64 b.x, .int .i64 b.y, .int .i64 b.k]] w fun e w' => ∃ r1 F, e = .returned (.agg #[.int .i64 ((optSets b).pc), .int .i64 ((optSets b).len), r1, .int .i64 ((optSets b).fin), .int .i64 ((optSets b).x), .int .i64 ((optSets b).y), .int .i64 ((optSets b).k)]) ∧ OwnSl w' r1 (optSets b).ops F ∧ Fr w w' F ∧ Ext w w' := by
  obtain ⟨i0, hi, hz0, hz1, hz2⟩ := info_parts infzBool
  have HI0 := hide hi
  have HZ00 := hide hz0
  have HZ10 := hide hz1
  have HZ20 := hide hz2
  clear hi hz0 hz1 hz2
  obtain ⟨Ab1, cb1, rfl, hlb1, hmb1⟩ := hb1.form
  go_enter Try.func102, Try.ntmps102
  go_wp2_with fail
  have he0 : Ext w ((w.alloc (Obj.cells #[.int .i64 b.pc, .int .i64 b.len, (.slice Ab1 b.ops.length cb1), .int .i64 b.fin, .int .i64 b.x, .int .i64 b.y, .int .i64 b.k] 25)).alloc (Obj.cells #[.int .i64 0, .int .i64 0, .slice none 0 0, .int .i64 0, .int .i64 0, .int .i64 0, .int .i64 0] 25)) := (Ext.auto)
  have hs0 : w.heap.size + 2 ≤ (((w.alloc (Obj.cells #[.int .i64 b.pc, .int .i64 b.len, (.slice Ab1 b.ops.length cb1), .int .i64 b.fin, .int .i64 b.x, .int .i64 b.y, .int .i64 b.k] 25)).alloc (Obj.cells #[.int .i64 0, .int .i64 0, .slice none 0 0, .int .i64 0, .int .i64 0, .int .i64 0, .int .i64 0] 25))).heap.size := by simp
  have hq0 := hide (show (((w.alloc (Obj.cells #[.int .i64 b.pc, .int .i64 b.len, (.slice Ab1 b.ops.length cb1), .int .i64 b.fin, .int .i64 b.x, .int .i64 b.y, .int .i64 b.k] 25)).alloc (Obj.cells #[.int .i64 0, .int .i64 0, .slice none 0 0, .int .i64 0, .int .i64 0, .int .i64 0, .int .i64 0] 25))).heap.size = w.heap.size + 2 by simp)
  have hBb_0 : Bx ((w.alloc (Obj.cells #[.int .i64 b.pc, .int .i64 b.len, (.slice Ab1 b.ops.length cb1), .int .i64 b.fin, .int .i64 b.x, .int .i64 b.y, .int .i64 b.k] 25)).alloc (Obj.cells #[.int .i64 0, .int .i64 0, .slice none 0 0, .int .i64 0, .int .i64 0, .int .i64 0, .int .i64 0] 25)) (w.heap.size) [.int .i64 b.pc, .int .i64 b.len, (.slice Ab1 b.ops.length cb1), .int .i64 b.fin, .int .i64 b.x, .int .i64 b.y, .int .i64 b.k] := (by have := (Bx.alloc (Bx.new w #[.int .i64 b.pc, .int .i64 b.len, (.slice Ab1 b.ops.length cb1), .int .i64 b.fin, .int .i64 b.x, .int .i64 b.y, .int .i64 b.k] 25) (by simp) #[.int .i64 0, .int .i64 0, .slice none 0 0, .int .i64 0, .int .i64 0, .int .i64 0, .int .i64 0] 25); simpa using this)
  have hFb_0 : ∀ oo, (((w.alloc (Obj.cells #[.int .i64 b.pc, .int .i64 b.len, (.slice Ab1 b.ops.length cb1), .int .i64 b.fin, .int .i64 b.x, .int .i64 b.y, .int .i64 b.k] 25)).alloc (Obj.cells #[.int .i64 0, .int .i64 0, .slice none 0 0, .int .i64 0, .int .i64 0, .int .i64 0, .int .i64 0] 25))).frozen? ⟨w.heap.size, oo, none⟩ = false := fun oo => by simp
  have hBres_0 : Bx ((w.alloc (Obj.cells #[.int .i64 b.pc, .int .i64 b.len, (.slice Ab1 b.ops.length cb1), .int .i64 b.fin, .int .i64 b.x, .int .i64 b.y, .int .i64 b.k] 25)).alloc (Obj.cells #[.int .i64 0, .int .i64 0, .slice none 0 0, .int .i64 0, .int .i64 0, .int .i64 0, .int .i64 0] 25)) (w.heap.size + 1) [.int .i64 0, .int .i64 0, .slice none 0 0, .int .i64 0, .int .i64 0, .int .i64 0, .int .i64 0] := (by have := (Bx.new (w.alloc (Obj.cells #[.int .i64 b.pc, .int .i64 b.len, (.slice Ab1 b.ops.length cb1), .int .i64 b.fin, .int .i64 b.x, .int .i64 b.y, .int .i64 b.k] 25)) #[.int .i64 0, .int .i64 0, .slice none 0 0, .int .i64 0, .int .i64 0, .int .i64 0, .int .i64 0] 25); simpa using this)
  have hFres_0 : ∀ oo, (((w.alloc (Obj.cells #[.int .i64 b.pc, .int .i64 b.len, (.slice Ab1 b.ops.length cb1), .int .i64 b.fin, .int .i64 b.x, .int .i64 b.y, .int .i64 b.k] 25)).alloc (Obj.cells #[.int .i64 0, .int .i64 0, .slice none 0 0, .int .i64 0, .int .i64 0, .int .i64 0, .int .i64 0] 25))).frozen? ⟨w.heap.size + 1, oo, none⟩ = false := fun oo => by simp
  generalize ((w.alloc (Obj.cells #[.int .i64 b.pc, .int .i64 b.len, (.slice Ab1 b.ops.length cb1), .int .i64 b.fin, .int .i64 b.x, .int .i64 b.y, .int .i64 b.k] 25)).alloc (Obj.cells #[.int .i64 0, .int .i64 0, .slice none 0 0, .int .i64 0, .int .i64 0, .int .i64 0, .int .i64 0] 25)) = w0 at *
  refine (specIrOk_any b _ _ (hb1.ext he0) hkb).mono ?_
  rintro e w1 ⟨rfl, hy⟩
  have hx1 : Ext w0 w1 := Ext.trans (Ext.auto) hy
  have hs1 := hx1.size
  have he1 : Ext w w1 := he0.trans hx1
  have hBb_1 : Bx w1 (w.heap.size) [.int .i64 b.pc, .int .i64 b.len, (.slice Ab1 b.ops.length cb1), .int .i64 b.fin, .int .i64 b.x, .int .i64 b.y, .int .i64 b.k] := hx1.bx hBb_0 (by omega)
  have hFb_1 : ∀ oo, w1.frozen? ⟨w.heap.size, oo, none⟩ = false := fun oo => (hx1.frozen (by omega)).trans (hFb_0 oo)
  have hBres_1 : Bx w1 (w.heap.size + 1) [.int .i64 0, .int .i64 0, .slice none 0 0, .int .i64 0, .int .i64 0, .int .i64 0, .int .i64 0] := hx1.bx hBres_0 (by omega)
  have hFres_1 : ∀ oo, w1.frozen? ⟨w.heap.size + 1, oo, none⟩ = false := fun oo => (hx1.frozen (by omega)).trans (hFres_0 oo)
  clear hBb_0 hFb_0 hBres_0 hFres_0
  clear hy
  cases hok : irOkB b
  · 
    have HNO := hide (optSets_no hok)
    clear hok
    have yres : w.heap.size + 1 < w1.heap.size := by omega
    have xres0 := hBres_1 0 _ rfl
    have xres1 := hBres_1 1 _ rfl
    have xres2 := hBres_1 2 _ rfl
    have xres3 := hBres_1 3 _ rfl
    have xres4 := hBres_1 4 _ rfl
    have xres5 := hBres_1 5 _ rfl
    have xres6 := hBres_1 6 _ rfl
    have fres := hFres_1
    go_wp2
    first
    | refine bodyPost_ret (v := .agg #[.int .i64 0, .int .i64 0, .slice none 0 0, .int .i64 0, .int .i64 0, .int .i64 0, .int .i64 0]) (by simp [results, Try.results102, go_sem, xres0, xres1, xres2, xres3, xres4, xres5, xres6, yres]) rfl ⟨.slice none 0 0, [], by rw [HNO.out]; rfl, by rw [HNO.out]; exact OwnSl.nil _, Fr.nil _ _, (Ext.hold he1)⟩
    | refine bodyPost_ret (v := .agg #[.int .i64 0, .int .i64 0, .slice none 0 0, .int .i64 0, .int .i64 0, .int .i64 0, .int .i64 0]) (by simp [results, Try.results102, go_sem, xres0, xres1, xres2, xres3, xres4, xres5, xres6, yres]) rfl ⟨.slice none 0 0, by rw [HNO.out]; rfl, [], by rw [HNO.out]; exact OwnSl.nil _, Fr.nil _ _, (Ext.hold he1)⟩
  have HOK := hide hok
  clear hok
  have hn48 := ok_n HOK.out
  unfold maxLen at hmb1
  go_wp2_with fail
  have hA0 : FApp w1 w1.heap.size (w1.alloc (.cells #[] 4)) 4 (.slice (some ⟨w1.heap.size, 0, none⟩) 0 0) ([] : List Bool) [] [] := ⟨App.empty w1 4, fun q hq => by simp [Value.ownBlock] at hq; omega, rfl⟩
  have he2 : Ext w (w1.alloc (.cells #[] 4)) := (Ext.hold he1)
  have hs2 : w1.heap.size + 1 ≤ ((w1.alloc (.cells #[] 4))).heap.size := by simp
  have hq2 := hide (show ((w1.alloc (.cells #[] 4))).heap.size = w1.heap.size + 1 by simp)
  have hBb_2 : Bx ((w1.alloc (.cells #[] 4))) (w.heap.size) [.int .i64 b.pc, .int .i64 b.len, (.slice Ab1 b.ops.length cb1), .int .i64 b.fin, .int .i64 b.x, .int .i64 b.y, .int .i64 b.k] := Bx.hold hBb_1
  have hFb_2 : ∀ oo, ((w1.alloc (.cells #[] 4))).frozen? ⟨w.heap.size, oo, none⟩ = false := (fz_hold hFb_1)
  have hBres_2 : Bx ((w1.alloc (.cells #[] 4))) (w.heap.size + 1) [.int .i64 0, .int .i64 0, .slice none 0 0, .int .i64 0, .int .i64 0, .int .i64 0, .int .i64 0] := Bx.hold hBres_1
  have hFres_2 : ∀ oo, ((w1.alloc (.cells #[] 4))).frozen? ⟨w.heap.size + 1, oo, none⟩ = false := (fz_hold hFres_1)
  generalize (w1.alloc (.cells #[] 4)) = w2 at *
  clear hBb_1 hFb_1 hBres_1 hFres_1
  go_loopw [3, 4] (fun v i w3 => ∃ (k : Nat) (A3 : Option Addr) (c3 : Nat) (Fs : List (List Nat)) (xs : List Value), k ≤ b.ops.length ∧ i = .int .i64 (k : Int) ∧ v = .slice A3 k c3 ∧ FApp w1 w1.heap.size w3 4 (.slice A3 k c3) ((keptL b.ops).take (k)) Fs xs ∧ Ext w w3 ∧ w2.heap.size ≤ w3.heap.size ∧ Bx w3 (w.heap.size) [.int .i64 b.pc, .int .i64 b.len, (.slice Ab1 b.ops.length cb1), .int .i64 b.fin, .int .i64 b.x, .int .i64 b.y, .int .i64 b.k] ∧ (∀ oo, w3.frozen? ⟨w.heap.size, oo, none⟩ = false) ∧ Bx w3 (w.heap.size + 1) [.int .i64 0, .int .i64 0, .slice none 0 0, .int .i64 0, .int .i64 0, .int .i64 0, .int .i64 0] ∧ (∀ oo, w3.frozen? ⟨w.heap.size + 1, oo, none⟩ = false)) (fun _ i _ => b.ops.length - (intOf i).toNat)
  case atStart => exact ⟨0, some ⟨w1.heap.size, 0, none⟩, 0, [], [], by omega, rfl, rfl, by simpa using hA0, he2, Nat.le_refl _, hBb_2, hFb_2, hBres_2, hFres_2⟩
  case round =>
    clear hA0
    obtain ⟨w3, hwr⟩ : ∃ w3 : World, w3 = wr := ⟨_, rfl⟩
    subst hwr
    obtain ⟨k, A3, c3, Fs, xs, hk, rfl, rfl, hA, he3, hs3, hBb_3, hFb_3, hBres_3, hFres_3⟩ := hrel
    by_cases hlt : k < b.ops.length
    · 
      have z0 : (0 : Int) ≤ (k : Int) := by omega
      have z1 : (k : Int) < (b.ops.length : Int) := by omega
      have hkl : (keptL b.ops).length = b.ops.length := keptL_length _
      have HKL := hide hkl
      have HTL := hide (show ((keptL b.ops).take k).length = k by rw [List.length_take, hkl]; omega)
      have HTS := hide (show ((keptL b.ops).take (k + 1)).length = k + 1 by rw [List.length_take, hkl]; omega)
      have HT := hide (List.take_succ_eq_append_getElem (l := keptL b.ops) (i := k) (by rw [keptL_length]; exact hlt))
      have HAT := hide (keptL_at b.ops k hlt)
      clear hkl
      obtain ⟨bb, off, rfl, hbo, hk0, e0, e1, e2, e3, e4⟩ := at_IrOp (hb1.ext he3) hlt
      have hbl : bb < w3.heap.size := hbo
      by_cases k8 : b.ops[k].kind = 8
      · 
        have q8 : (b.ops[k].kind != 8) = false := by simp [k8]
        have K8 := hide k8
        clear k8
        have yb : w.heap.size < w3.heap.size := by omega
        have xb0 := hBb_3 0 _ rfl
        have xb1 := hBb_3 1 _ rfl
        have xb2 := hBb_3 2 _ rfl
        have xb3 := hBb_3 3 _ rfl
        have xb4 := hBb_3 4 _ rfl
        have xb5 := hBb_3 5 _ rfl
        have xb6 := hBb_3 6 _ rfl
        go_wp2_with fail
        clear xb0 xb1 xb2 xb3 xb4 xb5 xb6 yb
        refine (l10Lost_any b.ops k _ _ (hb1.ext he3) hlt (by omega)).mono ?_
        rintro e w4 ⟨rfl, hy⟩
        have hx4 : Ext w3 w4 := Ext.trans (Ext.auto) hy
        have hs4 := hx4.size
        have he4 : Ext w w4 := he3.trans hx4
        have hBb_4 : Bx w4 (w.heap.size) [.int .i64 b.pc, .int .i64 b.len, (.slice (some ⟨bb, off, none⟩) b.ops.length cb1), .int .i64 b.fin, .int .i64 b.x, .int .i64 b.y, .int .i64 b.k] := hx4.bx hBb_3 (by omega)
        have hFb_4 : ∀ oo, w4.frozen? ⟨w.heap.size, oo, none⟩ = false := fun oo => (hx4.frozen (by omega)).trans (hFb_3 oo)
        have hBres_4 : Bx w4 (w.heap.size + 1) [.int .i64 0, .int .i64 0, .slice none 0 0, .int .i64 0, .int .i64 0, .int .i64 0, .int .i64 0] := hx4.bx hBres_3 (by omega)
        have hFres_4 : ∀ oo, w4.frozen? ⟨w.heap.size + 1, oo, none⟩ = false := fun oo => (hx4.frozen (by omega)).trans (hFres_3 oo)
        clear hBb_3 hFb_3 hBres_3 hFres_3
        have hA2 := hA.call hy
        clear hA hy
        have hA := hA2
        clear hA2 e0 e1 e2 e3 e4 hbo hbl
        cases hv : seenR b.ops[k].k (b.ops.drop (k + 1))
        · 
          have HV := hide hv
          clear hv
          go_wp2_with (at_builtin; refine wpList_append_push2 (w0 := w1) (wr := w4) rfl _ _ 126 rfl i0 _ 1 Try.underlying126 HI0.out HZ00.out HZ10.out HZ20.out rfl (by decide) hA.app rfl (true) #[.bool true] 4 [] _ rfl (Ext.refl _) ⟨rfl, rfl⟩ (Fr.nil _ _) (by repeat (first | (exact fun _ h => absurd h (List.not_mem_nil)) | (refine List.forall_mem_cons.2 ⟨rfl, ?_⟩))) (by unfold maxLen; rw [HTL.out]; omega) (by rw [HTL.out]; omega) ?_; intro v' w9 xs' hA9 hg9 hb9; have hP := FApp.push hA hA9 (by simp; omega) hb9; rw [show (keptL b.ops).take k ++ [true] = (keptL b.ops).take (k + 1) by rw [HT.out, HAT.out]; rw [HV.out, K8.out]; rfl] at hP; obtain ⟨g9, cap9, hv9, hc9, hm9, hl9, hR9⟩ := hP.app.toRow (by rw [HTS.out]; omega); rw [HTS.out] at hv9; subst hv9)
          go_roundw
          case rel => exact ⟨k + 1, some ⟨g9, 0, none⟩, cap9, Fs ++ [[]], _, by omega, by go_num, rfl, hP, he1.trans hA9.ext, by have := hg9.size; simp at this; omega, ((Bx.alloc hBb_4 (by omega) #[.bool true] 4).grown hg9 (by simp; omega) (hA.ne (by omega))), (fz_grown (fz_alloc hFb_4 (by omega) (.cells #[.bool true] 4)) hg9 (by simp; omega) (hA.ne (by omega))), ((Bx.alloc hBres_4 (by omega) #[.bool true] 4).grown hg9 (by simp; omega) (hA.ne (by omega))), (fz_grown (fz_alloc hFres_4 (by omega) (.cells #[.bool true] 4)) hg9 (by simp; omega) (hA.ne (by omega)))⟩
          case measure => (simp [intOf]; try omega)
        · 
          have HV := hide hv
          clear hv
          go_wp2_with (at_builtin; refine wpList_append_push2 (w0 := w1) (wr := w4) rfl _ _ 126 rfl i0 _ 1 Try.underlying126 HI0.out HZ00.out HZ10.out HZ20.out rfl (by decide) hA.app rfl (false) #[.bool false] 4 [] _ rfl (Ext.refl _) ⟨rfl, rfl⟩ (Fr.nil _ _) (by repeat (first | (exact fun _ h => absurd h (List.not_mem_nil)) | (refine List.forall_mem_cons.2 ⟨rfl, ?_⟩))) (by unfold maxLen; rw [HTL.out]; omega) (by rw [HTL.out]; omega) ?_; intro v' w9 xs' hA9 hg9 hb9; have hP := FApp.push hA hA9 (by simp; omega) hb9; rw [show (keptL b.ops).take k ++ [false] = (keptL b.ops).take (k + 1) by rw [HT.out, HAT.out]; rw [HV.out, K8.out]; rfl] at hP; obtain ⟨g9, cap9, hv9, hc9, hm9, hl9, hR9⟩ := hP.app.toRow (by rw [HTS.out]; omega); rw [HTS.out] at hv9; subst hv9)
          go_roundw
          case rel => exact ⟨k + 1, some ⟨g9, 0, none⟩, cap9, Fs ++ [[]], _, by omega, by go_num, rfl, hP, he1.trans hA9.ext, by have := hg9.size; simp at this; omega, ((Bx.alloc hBb_4 (by omega) #[.bool false] 4).grown hg9 (by simp; omega) (hA.ne (by omega))), (fz_grown (fz_alloc hFb_4 (by omega) (.cells #[.bool false] 4)) hg9 (by simp; omega) (hA.ne (by omega))), ((Bx.alloc hBres_4 (by omega) #[.bool false] 4).grown hg9 (by simp; omega) (hA.ne (by omega))), (fz_grown (fz_alloc hFres_4 (by omega) (.cells #[.bool false] 4)) hg9 (by simp; omega) (hA.ne (by omega)))⟩
          case measure => (simp [intOf]; try omega)
      · 
        have q8 : (b.ops[k].kind != 8) = true := by simp [k8]
        have K8 := hide (show (b.ops[k].kind == 8) = false by simp [k8])
        clear k8
        have yb : w.heap.size < w3.heap.size := by omega
        have xb0 := hBb_3 0 _ rfl
        have xb1 := hBb_3 1 _ rfl
        have xb2 := hBb_3 2 _ rfl
        have xb3 := hBb_3 3 _ rfl
        have xb4 := hBb_3 4 _ rfl
        have xb5 := hBb_3 5 _ rfl
        have xb6 := hBb_3 6 _ rfl
        go_wp2_with (at_builtin; refine wpList_append_push2 (w0 := w1) (wr := w3) rfl _ _ 126 rfl i0 _ 1 Try.underlying126 HI0.out HZ00.out HZ10.out HZ20.out rfl (by decide) hA.app rfl (true) #[.bool true] 4 [] _ rfl (Ext.refl _) ⟨rfl, rfl⟩ (Fr.nil _ _) (by repeat (first | (exact fun _ h => absurd h (List.not_mem_nil)) | (refine List.forall_mem_cons.2 ⟨rfl, ?_⟩))) (by unfold maxLen; rw [HTL.out]; omega) (by rw [HTL.out]; omega) ?_; intro v' w9 xs' hA9 hg9 hb9; have hP := FApp.push hA hA9 (by simp; omega) hb9; rw [show (keptL b.ops).take k ++ [true] = (keptL b.ops).take (k + 1) by rw [HT.out, HAT.out]; rw [K8.out]; rfl] at hP; obtain ⟨g9, cap9, hv9, hc9, hm9, hl9, hR9⟩ := hP.app.toRow (by rw [HTS.out]; omega); rw [HTS.out] at hv9; subst hv9)
        go_roundw
        case rel => exact ⟨k + 1, some ⟨g9, 0, none⟩, cap9, Fs ++ [[]], _, by omega, by go_num, rfl, hP, he1.trans hA9.ext, by have := hg9.size; simp at this; omega, ((Bx.alloc hBb_3 (by omega) #[.bool true] 4).grown hg9 (by simp; omega) (hA.ne (by omega))), (fz_grown (fz_alloc hFb_3 (by omega) (.cells #[.bool true] 4)) hg9 (by simp; omega) (hA.ne (by omega))), ((Bx.alloc hBres_3 (by omega) #[.bool true] 4).grown hg9 (by simp; omega) (hA.ne (by omega))), (fz_grown (fz_alloc hFres_3 (by omega) (.cells #[.bool true] 4)) hg9 (by simp; omega) (hA.ne (by omega)))⟩
        case measure => (simp [intOf]; try omega)
    · 
      obtain rfl : k = b.ops.length := by omega
      rw [List.take_of_length_le (by rw [keptL_length]; exact Nat.le_refl _)] at hA
      obtain ⟨F3, ho3, hf3⟩ := hA.app.done
      have hS3 := ho3.old hf3
      clear hA ho3 hf3
      have yb : w.heap.size < w3.heap.size := by omega
      have xb0 := hBb_3 0 _ rfl
      have xb1 := hBb_3 1 _ rfl
      have xb2 := hBb_3 2 _ rfl
      have xb3 := hBb_3 3 _ rfl
      have xb4 := hBb_3 4 _ rfl
      have xb5 := hBb_3 5 _ rfl
      have xb6 := hBb_3 6 _ rfl
      go_wp2_with fail
      clear xb0 xb1 xb2 xb3 xb4 xb5 xb6 yb
      refine (dropSets_any b _ _ _ (hb1.ext he3) hS3 HOK.out).mono ?_
      rintro e w4 ⟨r1, F1, rfl, ho1, hf1, hy⟩
      have hx4 : Ext w3 w4 := Ext.trans (Ext.auto) hy
      have hs4 := hx4.size
      have he4 : Ext w w4 := he3.trans hx4
      have hBb_4 : Bx w4 (w.heap.size) [.int .i64 b.pc, .int .i64 b.len, (.slice Ab1 b.ops.length cb1), .int .i64 b.fin, .int .i64 b.x, .int .i64 b.y, .int .i64 b.k] := hx4.bx hBb_3 (by omega)
      have hFb_4 : ∀ oo, w4.frozen? ⟨w.heap.size, oo, none⟩ = false := fun oo => (hx4.frozen (by omega)).trans (hFb_3 oo)
      have hBres_4 : Bx w4 (w.heap.size + 1) [.int .i64 0, .int .i64 0, .slice none 0 0, .int .i64 0, .int .i64 0, .int .i64 0, .int .i64 0] := hx4.bx hBres_3 (by omega)
      have hFres_4 : ∀ oo, w4.frozen? ⟨w.heap.size + 1, oo, none⟩ = false := fun oo => (hx4.frozen (by omega)).trans (hFres_3 oo)
      clear hBb_3 hFb_3 hBres_3 hFres_3
      clear hy
      obtain ⟨B1, d1, rfl, -, -⟩ := ho1.sl.form
      have yres : w.heap.size + 1 < w4.heap.size := by omega
      have xres0 := hBres_4 0 _ rfl
      have xres1 := hBres_4 1 _ rfl
      have xres2 := hBres_4 2 _ rfl
      have xres3 := hBres_4 3 _ rfl
      have xres4 := hBres_4 4 _ rfl
      have xres5 := hBres_4 5 _ rfl
      have xres6 := hBres_4 6 _ rfl
      have fres := hFres_4
      go_wp2
      refine bodyPost_ret (v := .agg #[.int .i64 ((optSets b).pc), .int .i64 ((optSets b).len), (.slice B1 (optSets b).ops.length d1), .int .i64 ((optSets b).fin), .int .i64 ((optSets b).x), .int .i64 ((optSets b).y), .int .i64 ((optSets b).k)]) (by simp [results, Try.results102, go_sem, xres0, xres1, xres2, xres3, xres4, xres5, xres6]) rfl ⟨_, F1, rfl, ?_, ?_, ?_⟩
      · exact OwnSl.stay ho1 (fun b hb => by
          have q := hf1.2 b hb; have q1 := q.1; have q2 := q.2; (try simp at q1 q2)
          repeat (first | rw [heap_set _ _ _ _ (by simp; omega)] | rw [Ext.heap (Ext.refl _) (by omega)]))
      · exact hf1.mk1 (by omega) (by first | (simp; done) | (simp; omega))
      · exact (Ext.hold he4)

end Go.Proofs.Yteaacelfnkiboaa
