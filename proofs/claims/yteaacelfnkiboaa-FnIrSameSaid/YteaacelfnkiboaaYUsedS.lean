/-
  UsedS
-/
import Derived.Test.YteaacelfnkiboaaYRoom0Lib
import Derived.Test.YteaacelfnkiboaaYRowLib
import Derived.Test.YteaacelfnkiboaaYIrOkS
import Derived.Deep.DeepCutAuto
namespace Go.Proofs.Yteaacelfnkiboaa
open Go.RowKit

set_option linter.unusedVariables false
set_option linter.unusedSimpArgs false
set_option maxRecDepth 100000

theorem infyBool : (Try.prog.info? 4).map (fun i => (i.zero, i.size, i.bytes)) = some (some (.bool false), 1, 1) := by kernel_rfl

set_option maxHeartbeats 16000000 in
theorem specOptUsed_any (b : IrBlock) (v : Value) (w : World) (h : Sl w (Old w) v b.ops) (hkb : b.Ok) :
    Calls Try.prog 120 #[.agg #[.int .i64 b.pc, .int .i64 b.len, v, .int .i64 b.fin, .int .i64 b.x, .int .i64 b.y, .int .i64 b.k]] w fun e w' => ∃ r F, e = .returned r ∧ OwnSl w' r (optUsed b) F ∧ Fr w w' F ∧ Ext w w' := by
  obtain ⟨Ab1, cb1, rfl, hl, hm⟩ := h.form
  unfold maxLen at hm
  obtain ⟨i0, hi, hz0, hz1, hz2⟩ := info_parts infyBool
  have HI := hide hi
  have HZ0 := hide hz0
  have HZ1 := hide hz1
  have HZ2 := hide hz2
  clear hi hz0 hz1 hz2
  go_enter Try.func120, Try.ntmps120
  have he0 : Ext w w := Ext.refl _
  have hs0 : w.heap.size ≤ w.heap.size := Nat.le_refl _
  have hq0 := hide (rfl : w.heap.size = w.heap.size)
  go_wp2_with fail
  have he1 : Ext w (w.alloc (Obj.cells #[.int .i64 b.pc, .int .i64 b.len, (.slice Ab1 b.ops.length cb1), .int .i64 b.fin, .int .i64 b.x, .int .i64 b.y, .int .i64 b.k] 25)) := (Ext.hold he0)
  have hs1 : w.heap.size + 1 ≤ ((w.alloc (Obj.cells #[.int .i64 b.pc, .int .i64 b.len, (.slice Ab1 b.ops.length cb1), .int .i64 b.fin, .int .i64 b.x, .int .i64 b.y, .int .i64 b.k] 25))).heap.size := by simp
  have hq1 := hide (show ((w.alloc (Obj.cells #[.int .i64 b.pc, .int .i64 b.len, (.slice Ab1 b.ops.length cb1), .int .i64 b.fin, .int .i64 b.x, .int .i64 b.y, .int .i64 b.k] 25))).heap.size = w.heap.size + 1 by simp)
  have hBb_1 : Bx ((w.alloc (Obj.cells #[.int .i64 b.pc, .int .i64 b.len, (.slice Ab1 b.ops.length cb1), .int .i64 b.fin, .int .i64 b.x, .int .i64 b.y, .int .i64 b.k] 25))) (w.heap.size) [.int .i64 b.pc, .int .i64 b.len, (.slice Ab1 b.ops.length cb1), .int .i64 b.fin, .int .i64 b.x, .int .i64 b.y, .int .i64 b.k] := (by have := Bx.new w #[.int .i64 b.pc, .int .i64 b.len, (.slice Ab1 b.ops.length cb1), .int .i64 b.fin, .int .i64 b.x, .int .i64 b.y, .int .i64 b.k] 25; simpa using this)
  have hFb_1 : ∀ oo, ((w.alloc (Obj.cells #[.int .i64 b.pc, .int .i64 b.len, (.slice Ab1 b.ops.length cb1), .int .i64 b.fin, .int .i64 b.x, .int .i64 b.y, .int .i64 b.k] 25))).frozen? ⟨w.heap.size, oo, none⟩ = false := by first | (exact fz_new _ _ _ (by first | rfl | simp)) | (intro oo; simp)
  generalize (w.alloc (Obj.cells #[.int .i64 b.pc, .int .i64 b.len, (.slice Ab1 b.ops.length cb1), .int .i64 b.fin, .int .i64 b.x, .int .i64 b.y, .int .i64 b.k] 25)) = w1 at *
  have hA0 : App w1 (w1.alloc (.cells #[] 4)) 4 (.slice (some ⟨w.heap.size + 1, 0, none⟩) 0 0) ([] : List Bool) [] [] := App.emptyAt w1 4 _ hq1.out.symm
  have he2 : Ext w (w1.alloc (.cells #[] 4)) := (Ext.hold he1)
  have hs2 : w1.heap.size + 1 ≤ ((w1.alloc (.cells #[] 4))).heap.size := by simp
  have hq2 := hide (show ((w1.alloc (.cells #[] 4))).heap.size = w1.heap.size + 1 by simp)
  have hBb_2 : Bx ((w1.alloc (.cells #[] 4))) (w.heap.size) [.int .i64 b.pc, .int .i64 b.len, (.slice Ab1 b.ops.length cb1), .int .i64 b.fin, .int .i64 b.x, .int .i64 b.y, .int .i64 b.k] := Bx.hold hBb_1
  have hFb_2 : ∀ oo, ((w1.alloc (.cells #[] 4))).frozen? ⟨w.heap.size, oo, none⟩ = false := (fz_hold hFb_1)
  have hRg_2 : FRow ((w1.alloc (.cells #[] 4))) (w.heap.size + 1) 0 ([]) := (FRow.start (α := Bool) w1 4 hq1.out.symm)
  generalize (w1.alloc (.cells #[] 4)) = w2 at *
  clear hBb_1 hFb_1
  refine (specIrOk_any b _ _ (h.ext he2) hkb).mono ?_
  rintro e w3 ⟨rfl, hy⟩
  have hx3 : Ext w2 w3 := Ext.trans (Ext.auto) hy
  have hs3 := hx3.size
  have he3 : Ext w w3 := he2.trans hx3
  have hBb_3 : Bx w3 (w.heap.size) [.int .i64 b.pc, .int .i64 b.len, (.slice Ab1 b.ops.length cb1), .int .i64 b.fin, .int .i64 b.x, .int .i64 b.y, .int .i64 b.k] := hx3.bx hBb_2 (by omega)
  have hFb_3 : ∀ oo, w3.frozen? ⟨w.heap.size, oo, none⟩ = false := fun oo => (hx3.frozen (by omega)).trans (hFb_2 oo)
  clear hBb_2 hFb_2
  have hRg_3 : FRow w3 (w.heap.size + 1) 0 ([]) := hRg_2.ext hx3
  clear hRg_2
  have hA1 := hA0.call hy
  clear hy hA0
  cases hok : irOkB b
  · go_wp2
    go_ret
    exact ⟨_, [], rfl, by unfold optUsed; rw [hok]; exact ⟨_, 0, rfl, Nat.le_refl _, by simp [maxLen], fun h => by simp at h, fun _ => rfl, fun h => absurd rfl h⟩, Fr.nil _ _, he3⟩
  have hn48 := ok_n hok
  have HOK := hide hok
  clear hok
  have yb : w.heap.size < w3.heap.size := by omega
  have xb0 := hBb_3 0 _ rfl
  have xb1 := hBb_3 1 _ rfl
  have xb2 := hBb_3 2 _ rfl
  have xb3 := hBb_3 3 _ rfl
  have xb4 := hBb_3 4 _ rfl
  have xb5 := hBb_3 5 _ rfl
  have xb6 := hBb_3 6 _ rfl
  go_wp2_with fail
  clear xb0 xb1 xb2 xb3 xb4 xb5 xb6 yb
  go_loopw [3, 4] (fun v i w4 => ∃ (k : Nat) (Fs : List (List Nat)) (xs : List Value) (g cap : Nat), k ≤ b.ops.length ∧ i = .int .i64 (k : Int) ∧ v = .slice (some ⟨g, 0, none⟩) k cap ∧ w1.heap.size ≤ g ∧ k ≤ cap ∧ cap ≤ maxLen ∧ FRow w4 g 0 ((b.ops.map fun (o : IrOp) => decide (4 ≤ o.kind)).take k) ∧ App w1 w4 4 v ((b.ops.map fun (o : IrOp) => decide (4 ≤ o.kind)).take k) Fs xs ∧ Ext w w4 ∧ w3.heap.size ≤ w4.heap.size ∧ Bx w4 (w.heap.size) [.int .i64 b.pc, .int .i64 b.len, (.slice Ab1 b.ops.length cb1), .int .i64 b.fin, .int .i64 b.x, .int .i64 b.y, .int .i64 b.k] ∧ (∀ oo, w4.frozen? ⟨w.heap.size, oo, none⟩ = false)) (fun _ i _ => b.ops.length - (intOf i).toNat)
  case atStart => exact ⟨0, [], [], w.heap.size + 1, 0, by omega, rfl, rfl, by have := hq1.out; omega, by omega, by simp [maxLen], by simpa using hRg_3, by simpa using hA1, he3, Nat.le_refl _, hBb_3, hFb_3⟩
  case round =>
    obtain ⟨w4, hwr⟩ : ∃ w4 : World, w4 = wr := ⟨_, rfl⟩
    subst hwr
    obtain ⟨k, Fs, xs, g, cap, hk, rfl, rfl, hg1, hcap, hcm, hRg_4, hA, he4, hs4, hBb_4, hFb_4⟩ := hrel
    by_cases hlt : k < b.ops.length
    · obtain ⟨bb, off, rfl, hbo, hk0, e0, e1, e2, e3, e4⟩ := at_IrOp (h.ext he4) hlt
      have yb : w.heap.size < w4.heap.size := by omega
      have xb0 := hBb_4 0 _ rfl
      have xb1 := hBb_4 1 _ rfl
      have xb2 := hBb_4 2 _ rfl
      have xb3 := hBb_4 3 _ rfl
      have xb4 := hBb_4 4 _ rfl
      have xb5 := hBb_4 5 _ rfl
      have xb6 := hBb_4 6 _ rfl
      have hbl : bb < w4.heap.size := hbo
      have z0 : (0 : Int) ≤ (k : Int) := by omega
      have z1 : (k : Int) < (b.ops.length : Int) := by omega
      have HT := hide (List.take_succ_eq_append_getElem (l := (b.ops.map fun (o : IrOp) => decide (4 ≤ o.kind))) (i := k) (by simp; omega))
      go_wp2_with (at_builtin; refine wpList_append_push (w0 := w1) (wr := w4) rfl _ _ 126 rfl i0 _ 1 Try.underlying126 HI.out HZ0.out HZ1.out HZ2.out rfl (by decide) hA rfl (decide (4 ≤ b.ops[k].kind)) #[.bool (decide (4 ≤ b.ops[k].kind))] 4 [] _ rfl (Ext.refl _) ⟨rfl, rfl⟩ (Fr.nil _ _) (by intro u hu; simp at hu; subst hu; rfl) (by unfold maxLen; (first | omega | (simp; omega))) (by (first | omega | (simp; omega))) ?_; intro v' w9 xs' hA9 hg9; clear hA)
      have hA8 : App w1 w9 4 v' ((b.ops.map fun (o : IrOp) => decide (4 ≤ o.kind)).take (k + 1)) (Fs ++ [[]]) xs' := by rw [HT.out]; simpa using hA9
      have hBb9 := (Bx.alloc hBb_4 (by omega) #[.bool (decide (4 ≤ b.ops[k].kind))] 4).grown hg9 (by simp; omega) (by simp [Value.ownBlock]; omega)
      have hFb9 := (fz_alloc hFb_4 (by omega) (.cells #[.bool (decide (4 ≤ b.ops[k].kind))] 4))
      have hFb8 := fz_grown hFb9 hg9 (by simp; omega) (by simp [Value.ownBlock]; omega)
      obtain ⟨g2, cap2, rfl, hc1, hc2, hg2, hR2⟩ := hA8.toRow (by simp; omega)
      have hln : ((b.ops.map fun (o : IrOp) => decide (4 ≤ o.kind)).take (k + 1)).length = k + 1 := by simp; omega
      rw [hln] at hc1 hA8 ⊢
      have hE9 : Ext w w9 := he1.trans hA8.ext
      have hs9 : w4.heap.size ≤ w9.heap.size := by have := hg9.size; simp at this; omega
      go_roundw
      case rel => exact ⟨k + 1, _, _, g2, cap2, by omega, by go_num, rfl, hg2, hc1, hc2, hR2, hA8, hE9, by omega, hBb9, hFb8⟩
      case measure => simp [intOf]; omega
    · obtain rfl : k = b.ops.length := by omega
      rw [List.take_of_length_le (by simp)] at hRg_4
      have hI3 := fun q => end_x (ok_end HOK.out) q
      have hI5 := fun q => end_y (ok_end HOK.out) q
      have HFE := end_fin (ok_end HOK.out)
      clear hA hlt hk hA1
      have HL3 := hide (show ((b.ops.map fun (o : IrOp) => decide (4 ≤ o.kind))).length = b.ops.length by simp)
      have HL5 := hide (show (mark (b.ops.map fun (o : IrOp) => decide (4 ≤ o.kind)) (b.fin != 1) b.x).length = b.ops.length by rw [mark_length]; simp)
      have HE := hide (show usedS b = usedGoS b.ops b.ops.length (mark (mark (b.ops.map fun (o : IrOp) => decide (4 ≤ o.kind)) (b.fin != 1) b.x) (endY b.fin) b.y) from rfl)
      have yb : w.heap.size < w4.heap.size := by omega
      have xb0 := hBb_4 0 _ rfl
      have xb1 := hBb_4 1 _ rfl
      have xb2 := hBb_4 2 _ rfl
      have xb3 := hBb_4 3 _ rfl
      have xb4 := hBb_4 4 _ rfl
      have xb5 := hBb_4 5 _ rfl
      have xb6 := hBb_4 6 _ rfl
      go_upto_if 31 with fail
      clear xb0 xb1 xb2 xb3 xb4 xb5 xb6 yb
      go_upto_if 31 with fail
      go_cut [] (fun wx => Ext w wx ∧ w4.heap.size ≤ wx.heap.size ∧ Bx wx (w.heap.size) [.int .i64 b.pc, .int .i64 b.len, (.slice Ab1 b.ops.length cb1), .int .i64 b.fin, .int .i64 b.x, .int .i64 b.y, .int .i64 b.k] ∧ (∀ oo, wx.frozen? ⟨w.heap.size, oo, none⟩ = false) ∧ FRow wx (g) 0 (mark ((b.ops.map fun (o : IrOp) => decide (4 ≤ o.kind))) ((b.fin != 1)) (b.x)))
      case first =>
        cases hp : (b.fin != 1)
        · go_wp2_with fail
          have e : mark ((b.ops.map fun (o : IrOp) => decide (4 ≤ o.kind))) ((b.fin != 1)) (b.x) = (b.ops.map fun (o : IrOp) => decide (4 ≤ o.kind)) := by unfold mark; rw [hp]; rfl
          go_meet
          exact ⟨(Ext.hold he4), (by first | omega | (simp; done) | (simp; omega)), (Bx.hold hBb_4), (fz_hold hFb_4), (by rw [e]; exact hRg_4)⟩
        · have hi := hI3 hp
          have hi0 := hi.1
          have hi1 := hi.2
          have hin : (b.x).toNat < ((b.ops.map fun (o : IrOp) => decide (4 ≤ o.kind))).length := by rw [HL3.out]; omega
          have yb : w.heap.size < w4.heap.size := by omega
          have xb0 := hBb_4 0 _ rfl
          have xb1 := hBb_4 1 _ rfl
          have xb2 := hBb_4 2 _ rfl
          have xb3 := hBb_4 3 _ rfl
          have xb4 := hBb_4 4 _ rfl
          have xb5 := hBb_4 5 _ rfl
          have xb6 := hBb_4 6 _ rfl
          have gc := hRg_4.bool0 (i := (b.x).toNat) (hin)
          have zgc := hRg_4.fz
          have ygc : g < w4.heap.size := hRg_4.lt
          go_wp2_with fail
          have e : mark ((b.ops.map fun (o : IrOp) => decide (4 ≤ o.kind))) ((b.fin != 1)) (b.x) = ((b.ops.map fun (o : IrOp) => decide (4 ≤ o.kind))).set (b.x).toNat true := by unfold mark; rw [hp]; rfl
          go_meet
          exact ⟨(Ext.hold he4), (by first | omega | (simp; done) | (simp; omega)), (Bx.hold hBb_4), (fz_hold hFb_4), (by rw [e]; exact hRg_4.setBool0 hin true)⟩
      case rest =>
        obtain ⟨he5, hs5, hBb_5, hFb_5, hRg_5⟩ := hcut
        obtain ⟨w5, hwc⟩ : ∃ w5 : World, w5 = wc := ⟨_, rfl⟩
        subst hwc
        clear hBb_4 hFb_4 hRg_4
        have yb : w.heap.size < w5.heap.size := by omega
        have xb0 := hBb_5 0 _ rfl
        have xb1 := hBb_5 1 _ rfl
        have xb2 := hBb_5 2 _ rfl
        have xb3 := hBb_5 3 _ rfl
        have xb4 := hBb_5 4 _ rfl
        have xb5 := hBb_5 5 _ rfl
        have xb6 := hBb_5 6 _ rfl
        go_upto_region 10 with fail
        clear xb0 xb1 xb2 xb3 xb4 xb5 xb6 yb
        go_cut [43] (fun s43 wx => s43 = .bool (endY b.fin) ∧ Ext w wx ∧ w5.heap.size ≤ wx.heap.size ∧ Bx wx (w.heap.size) [.int .i64 b.pc, .int .i64 b.len, (.slice Ab1 b.ops.length cb1), .int .i64 b.fin, .int .i64 b.x, .int .i64 b.y, .int .i64 b.k] ∧ (∀ oo, wx.frozen? ⟨w.heap.size, oo, none⟩ = false) ∧ FRow wx (g) 0 (mark ((b.ops.map fun (o : IrOp) => decide (4 ≤ o.kind))) ((b.fin != 1)) (b.x)))
        case first =>
          have HC : b.fin = 1 ∨ b.fin = 2 ∨ b.fin = 3 ∨ b.fin = 4 := by omega
          rcases HC with e | e | e | e
          · have q3 : (b.fin == 3) = false := by rw [e]; rfl
            have q4 : (b.fin == 4) = false := by rw [e]; rfl
            have qH : endY b.fin = false := by rw [e]; rfl
            clear e
            have yb : w.heap.size < w5.heap.size := by omega
            have xb0 := hBb_5 0 _ rfl
            have xb1 := hBb_5 1 _ rfl
            have xb2 := hBb_5 2 _ rfl
            have xb3 := hBb_5 3 _ rfl
            have xb4 := hBb_5 4 _ rfl
            have xb5 := hBb_5 5 _ rfl
            have xb6 := hBb_5 6 _ rfl
            go_wp2_with fail
            go_meet
            exact ⟨(by rw [qH]), (Ext.hold he5), (by first | omega | (simp; done) | (simp; omega)), (Bx.hold hBb_5), (fz_hold hFb_5), (FRow.hold hRg_5)⟩
          · have q3 : (b.fin == 3) = false := by rw [e]; rfl
            have q4 : (b.fin == 4) = false := by rw [e]; rfl
            have qH : endY b.fin = false := by rw [e]; rfl
            clear e
            have yb : w.heap.size < w5.heap.size := by omega
            have xb0 := hBb_5 0 _ rfl
            have xb1 := hBb_5 1 _ rfl
            have xb2 := hBb_5 2 _ rfl
            have xb3 := hBb_5 3 _ rfl
            have xb4 := hBb_5 4 _ rfl
            have xb5 := hBb_5 5 _ rfl
            have xb6 := hBb_5 6 _ rfl
            go_wp2_with fail
            go_meet
            exact ⟨(by rw [qH]), (Ext.hold he5), (by first | omega | (simp; done) | (simp; omega)), (Bx.hold hBb_5), (fz_hold hFb_5), (FRow.hold hRg_5)⟩
          · have q3 : (b.fin == 3) = true := by rw [e]; rfl
            have q4 : (b.fin == 4) = false := by rw [e]; rfl
            have qH : endY b.fin = true := by rw [e]; rfl
            clear e
            have yb : w.heap.size < w5.heap.size := by omega
            have xb0 := hBb_5 0 _ rfl
            have xb1 := hBb_5 1 _ rfl
            have xb2 := hBb_5 2 _ rfl
            have xb3 := hBb_5 3 _ rfl
            have xb4 := hBb_5 4 _ rfl
            have xb5 := hBb_5 5 _ rfl
            have xb6 := hBb_5 6 _ rfl
            go_wp2_with fail
            go_meet
            exact ⟨(by rw [qH]), (Ext.hold he5), (by first | omega | (simp; done) | (simp; omega)), (Bx.hold hBb_5), (fz_hold hFb_5), (FRow.hold hRg_5)⟩
          · have q3 : (b.fin == 3) = false := by rw [e]; rfl
            have q4 : (b.fin == 4) = true := by rw [e]; rfl
            have qH : endY b.fin = true := by rw [e]; rfl
            clear e
            have yb : w.heap.size < w5.heap.size := by omega
            have xb0 := hBb_5 0 _ rfl
            have xb1 := hBb_5 1 _ rfl
            have xb2 := hBb_5 2 _ rfl
            have xb3 := hBb_5 3 _ rfl
            have xb4 := hBb_5 4 _ rfl
            have xb5 := hBb_5 5 _ rfl
            have xb6 := hBb_5 6 _ rfl
            go_wp2_with fail
            go_meet
            exact ⟨(by rw [qH]), (Ext.hold he5), (by first | omega | (simp; done) | (simp; omega)), (Bx.hold hBb_5), (fz_hold hFb_5), (FRow.hold hRg_5)⟩
        case rest =>
          obtain ⟨rfl, he6, hs6, hBb_6, hFb_6, hRg_6⟩ := hcut
          obtain ⟨w6, hwc⟩ : ∃ w6 : World, w6 = wc := ⟨_, rfl⟩
          subst hwc
          clear hBb_5 hFb_5 hRg_5
          go_upto_if 43 with fail
          go_cut [] (fun wx => Ext w wx ∧ w6.heap.size ≤ wx.heap.size ∧ Bx wx (w.heap.size) [.int .i64 b.pc, .int .i64 b.len, (.slice Ab1 b.ops.length cb1), .int .i64 b.fin, .int .i64 b.x, .int .i64 b.y, .int .i64 b.k] ∧ (∀ oo, wx.frozen? ⟨w.heap.size, oo, none⟩ = false) ∧ FRow wx (g) 0 (mark (mark ((b.ops.map fun (o : IrOp) => decide (4 ≤ o.kind))) ((b.fin != 1)) (b.x)) (endY b.fin) (b.y)))
          case first =>
            cases hp : endY b.fin
            · go_wp2_with fail
              have e : mark (mark ((b.ops.map fun (o : IrOp) => decide (4 ≤ o.kind))) ((b.fin != 1)) (b.x)) (endY b.fin) (b.y) = mark ((b.ops.map fun (o : IrOp) => decide (4 ≤ o.kind))) ((b.fin != 1)) (b.x) := by unfold mark; rw [hp]; rfl
              go_meet
              exact ⟨(Ext.hold he6), (by first | omega | (simp; done) | (simp; omega)), (Bx.hold hBb_6), (fz_hold hFb_6), (by rw [e]; exact hRg_6)⟩
            · have hi := hI5 hp
              have hi0 := hi.1
              have hi1 := hi.2
              have hin : (b.y).toNat < (mark ((b.ops.map fun (o : IrOp) => decide (4 ≤ o.kind))) ((b.fin != 1)) (b.x)).length := by rw [HL5.out]; omega
              have yb : w.heap.size < w6.heap.size := by omega
              have xb0 := hBb_6 0 _ rfl
              have xb1 := hBb_6 1 _ rfl
              have xb2 := hBb_6 2 _ rfl
              have xb3 := hBb_6 3 _ rfl
              have xb4 := hBb_6 4 _ rfl
              have xb5 := hBb_6 5 _ rfl
              have xb6 := hBb_6 6 _ rfl
              have gc := hRg_6.bool0 (i := (b.y).toNat) (hin)
              have zgc := hRg_6.fz
              have ygc : g < w6.heap.size := hRg_6.lt
              go_wp2_with fail
              have e : mark (mark ((b.ops.map fun (o : IrOp) => decide (4 ≤ o.kind))) ((b.fin != 1)) (b.x)) (endY b.fin) (b.y) = (mark ((b.ops.map fun (o : IrOp) => decide (4 ≤ o.kind))) ((b.fin != 1)) (b.x)).set (b.y).toNat true := by unfold mark; rw [hp]; rfl
              go_meet
              exact ⟨(Ext.hold he6), (by first | omega | (simp; done) | (simp; omega)), (Bx.hold hBb_6), (fz_hold hFb_6), (by rw [e]; exact hRg_6.setBool0 hin true)⟩
          case rest =>
            obtain ⟨he7, hs7, hBb_7, hFb_7, hRg_7⟩ := hcut
            obtain ⟨w7, hwc⟩ : ∃ w7 : World, w7 = wc := ⟨_, rfl⟩
            subst hwc
            clear hBb_6 hFb_6 hRg_6
            have yb : w.heap.size < w7.heap.size := by omega
            have xb0 := hBb_7 0 _ rfl
            have xb1 := hBb_7 1 _ rfl
            have xb2 := hBb_7 2 _ rfl
            have xb3 := hBb_7 3 _ rfl
            have xb4 := hBb_7 4 _ rfl
            have xb5 := hBb_7 5 _ rfl
            have xb6 := hBb_7 6 _ rfl
            go_wp2_with fail
            clear xb0 xb1 xb2 xb3 xb4 xb5 xb6 yb
            go_loopw [5] (fun i w8 => ∃ (k : Nat) (l : List Bool), k ≤ b.ops.length ∧ i = .int .i64 ((k : Int) - 1) ∧ l.length = b.ops.length ∧ Hid (usedGoS b.ops k l = usedS b) ∧ Ext w w8 ∧ w7.heap.size ≤ w8.heap.size ∧ Bx w8 (w.heap.size) [.int .i64 b.pc, .int .i64 b.len, (.slice Ab1 b.ops.length cb1), .int .i64 b.fin, .int .i64 b.x, .int .i64 b.y, .int .i64 b.k] ∧ (∀ oo, w8.frozen? ⟨w.heap.size, oo, none⟩ = false) ∧ FRow w8 (g) 0 (l)) (fun i _ => (intOf i + 1).toNat)
            case atStart => exact ⟨b.ops.length, mark (mark ((b.ops.map fun (o : IrOp) => decide (4 ≤ o.kind))) ((b.fin != 1)) (b.x)) (endY b.fin) (b.y), Nat.le_refl _, rfl, by simp [mark_length], HE.out.symm, he7, Nat.le_refl _, hBb_7, hFb_7, hRg_7⟩
            case round =>
              obtain ⟨w8, hwr⟩ : ∃ w8 : World, w8 = wr := ⟨_, rfl⟩
              subst hwr
              obtain ⟨k, l, hk, rfl, hll, HG, he8, hs8, hBb_8, hFb_8, hRg_8⟩ := hrel
              rcases k with _ | m
              · go_wp2
                go_ret
                obtain ⟨F, ho, hf⟩ := hRg_8.own (n := b.ops.length) (c := cap) (w0 := w) (by rw [hll]) (by omega) hcm (by omega)
                exact ⟨_, F, rfl, by unfold optUsed; rw [HOK.out, ← usedS_eq, ← HG.out]; exact ho, hf, he8⟩
              · have hlt : m < b.ops.length := by omega
                rw [show (((m + 1 : Nat) : Int) - 1) = (m : Int) by omega]
                have z0 : (0 : Int) ≤ (m : Int) := by omega
                have z1 : (m : Int) < (b.ops.length : Int) := by omega
                have hin : m < l.length := by omega
                obtain ⟨bb, off, rfl, hbo, hk0, e0, e1, e2, e3, e4⟩ := at_IrOp (h.ext he8) hlt
                have hbl : bb < w8.heap.size := hbo
                have KD := op_kind (ok_ops HOK.out m hlt)
                have KD1 := KD.1
                have KD2 := KD.2
                have HKX := hide (fun q => op_x (ok_ops HOK.out m hlt) q)
                have HKY := hide (fun q => op_y (ok_ops HOK.out m hlt) q)
                have HG1 := HG.out
                rw [usedGoS_succ _ _ _ hlt] at HG1
                have HGS := hide HG1
                clear HG1
                have yb : w.heap.size < w8.heap.size := by omega
                have xb0 := hBb_8 0 _ rfl
                have xb1 := hBb_8 1 _ rfl
                have xb2 := hBb_8 2 _ rfl
                have xb3 := hBb_8 3 _ rfl
                have xb4 := hBb_8 4 _ rfl
                have xb5 := hBb_8 5 _ rfl
                have xb6 := hBb_8 6 _ rfl
                have gc := hRg_8.bool0 (i := m) (hin)
                have zgc := hRg_8.fz
                have ygc : g < w8.heap.size := hRg_8.lt
                cases hq : l[m]
                · 
                  rw [hq] at gc
                  have HV := hide (show gB l m = false by rw [gB_at l m hin, hq])
                  go_wp2_with fail
                  go_roundw
                  case rel => exact ⟨m, l, by omega, by go_num, hll, by have h1 := HGS.out; rw [usedStepS_no HV.out] at h1; exact h1, (Ext.hold he8), (by first | omega | (simp; omega)), (Bx.hold hBb_8), (fz_hold hFb_8), (FRow.hold hRg_8)⟩
                  case measure => (simp [intOf]; try omega)
                · 
                  rw [hq] at gc
                  have HV := hide (show gB l m = true by rw [gB_at l m hin, hq])
                  go_upto_region 17 with fail
                  clear xb0 xb1 xb2 xb3 xb4 xb5 xb6 yb
                  clear gc zgc ygc
                  have he9 : Ext w (w8.alloc (Obj.cells #[.int .i64 (b.ops[m].kind), .int .i64 (b.ops[m].x), .int .i64 (b.ops[m].y), .int .i64 (b.ops[m].k), .int .i64 (b.ops[m].at_)] 58)) := (Ext.hold he8)
                  have hs9 : w8.heap.size + 1 ≤ ((w8.alloc (Obj.cells #[.int .i64 (b.ops[m].kind), .int .i64 (b.ops[m].x), .int .i64 (b.ops[m].y), .int .i64 (b.ops[m].k), .int .i64 (b.ops[m].at_)] 58))).heap.size := by simp
                  have hq9 := hide (show ((w8.alloc (Obj.cells #[.int .i64 (b.ops[m].kind), .int .i64 (b.ops[m].x), .int .i64 (b.ops[m].y), .int .i64 (b.ops[m].k), .int .i64 (b.ops[m].at_)] 58))).heap.size = w8.heap.size + 1 by simp)
                  have hltg_9 : g < w8.heap.size := hRg_8.lt
                  have hBb_9 : Bx ((w8.alloc (Obj.cells #[.int .i64 (b.ops[m].kind), .int .i64 (b.ops[m].x), .int .i64 (b.ops[m].y), .int .i64 (b.ops[m].k), .int .i64 (b.ops[m].at_)] 58))) (w.heap.size) [.int .i64 b.pc, .int .i64 b.len, (.slice (some ⟨bb, off, none⟩) b.ops.length cb1), .int .i64 b.fin, .int .i64 b.x, .int .i64 b.y, .int .i64 b.k] := Bx.hold hBb_8
                  have hFb_9 : ∀ oo, ((w8.alloc (Obj.cells #[.int .i64 (b.ops[m].kind), .int .i64 (b.ops[m].x), .int .i64 (b.ops[m].y), .int .i64 (b.ops[m].k), .int .i64 (b.ops[m].at_)] 58))).frozen? ⟨w.heap.size, oo, none⟩ = false := (fz_hold hFb_8)
                  have hRg_9 : FRow ((w8.alloc (Obj.cells #[.int .i64 (b.ops[m].kind), .int .i64 (b.ops[m].x), .int .i64 (b.ops[m].y), .int .i64 (b.ops[m].k), .int .i64 (b.ops[m].at_)] 58))) (g) 0 (l) := FRow.hold hRg_8
                  have hBo_9 : Bx ((w8.alloc (Obj.cells #[.int .i64 (b.ops[m].kind), .int .i64 (b.ops[m].x), .int .i64 (b.ops[m].y), .int .i64 (b.ops[m].k), .int .i64 (b.ops[m].at_)] 58))) (w8.heap.size) [.int .i64 (b.ops[m].kind), .int .i64 (b.ops[m].x), .int .i64 (b.ops[m].y), .int .i64 (b.ops[m].k), .int .i64 (b.ops[m].at_)] := (by have := Bx.new w8 #[.int .i64 (b.ops[m].kind), .int .i64 (b.ops[m].x), .int .i64 (b.ops[m].y), .int .i64 (b.ops[m].k), .int .i64 (b.ops[m].at_)] 58; simpa using this)
                  have hFo_9 : ∀ oo, ((w8.alloc (Obj.cells #[.int .i64 (b.ops[m].kind), .int .i64 (b.ops[m].x), .int .i64 (b.ops[m].y), .int .i64 (b.ops[m].k), .int .i64 (b.ops[m].at_)] 58))).frozen? ⟨w8.heap.size, oo, none⟩ = false := by first | (exact fz_new _ _ _ (by first | rfl | simp)) | (intro oo; simp)
                  generalize (w8.alloc (Obj.cells #[.int .i64 (b.ops[m].kind), .int .i64 (b.ops[m].x), .int .i64 (b.ops[m].y), .int .i64 (b.ops[m].k), .int .i64 (b.ops[m].at_)] 58)) = w9 at *
                  clear hBb_8 hFb_8 hRg_8
                  clear hbl hbo e0 e1 e2 e3 e4
                  go_cut [78] (fun s78 wx => s78 = .bool (hasX b.ops[m].kind) ∧ Ext w wx ∧ w9.heap.size ≤ wx.heap.size ∧ Bx wx (w.heap.size) [.int .i64 b.pc, .int .i64 b.len, (.slice (some ⟨bb, off, none⟩) b.ops.length cb1), .int .i64 b.fin, .int .i64 b.x, .int .i64 b.y, .int .i64 b.k] ∧ (∀ oo, wx.frozen? ⟨w.heap.size, oo, none⟩ = false) ∧ Bx wx (w8.heap.size) [.int .i64 (b.ops[m].kind), .int .i64 (b.ops[m].x), .int .i64 (b.ops[m].y), .int .i64 (b.ops[m].k), .int .i64 (b.ops[m].at_)] ∧ (∀ oo, wx.frozen? ⟨w8.heap.size, oo, none⟩ = false) ∧ FRow wx (g) 0 (l))
                  case first =>
                    have HC : b.ops[m].kind = 1 ∨ b.ops[m].kind = 2 ∨ b.ops[m].kind = 3 ∨ b.ops[m].kind = 4 ∨ b.ops[m].kind = 5 ∨ b.ops[m].kind = 6 ∨ b.ops[m].kind = 7 ∨ b.ops[m].kind = 8 := by omega
                    rcases HC with e | e | e | e | e | e | e | e
                    · have qI : inB b.ops[m].kind 3 5 = false := by rw [e]; rfl
                      have q7 : (b.ops[m].kind == 7) = false := by rw [e]; rfl
                      have q8 : (b.ops[m].kind == 8) = false := by rw [e]; rfl
                      have qH : hasX b.ops[m].kind = false := by rw [e]; rfl
                      clear e
                      have yo : w8.heap.size < w9.heap.size := by omega
                      have xo0 := hBo_9 0 _ rfl
                      have xo1 := hBo_9 1 _ rfl
                      have xo2 := hBo_9 2 _ rfl
                      have xo3 := hBo_9 3 _ rfl
                      have xo4 := hBo_9 4 _ rfl
                      go_wp2_with (go_at_call 37; refine (l1In_any _ _ _ _).mono ?_; rintro e w' ⟨rfl, rfl⟩)
                      go_meet
                      exact ⟨(by rw [qH]), (Ext.hold he9), (by first | omega | (simp; done) | (simp; omega)), (Bx.hold hBb_9), (fz_hold hFb_9), (Bx.hold hBo_9), (fz_hold hFo_9), (FRow.hold hRg_9)⟩
                    · have qI : inB b.ops[m].kind 3 5 = false := by rw [e]; rfl
                      have q7 : (b.ops[m].kind == 7) = false := by rw [e]; rfl
                      have q8 : (b.ops[m].kind == 8) = false := by rw [e]; rfl
                      have qH : hasX b.ops[m].kind = false := by rw [e]; rfl
                      clear e
                      have yo : w8.heap.size < w9.heap.size := by omega
                      have xo0 := hBo_9 0 _ rfl
                      have xo1 := hBo_9 1 _ rfl
                      have xo2 := hBo_9 2 _ rfl
                      have xo3 := hBo_9 3 _ rfl
                      have xo4 := hBo_9 4 _ rfl
                      go_wp2_with (go_at_call 37; refine (l1In_any _ _ _ _).mono ?_; rintro e w' ⟨rfl, rfl⟩)
                      go_meet
                      exact ⟨(by rw [qH]), (Ext.hold he9), (by first | omega | (simp; done) | (simp; omega)), (Bx.hold hBb_9), (fz_hold hFb_9), (Bx.hold hBo_9), (fz_hold hFo_9), (FRow.hold hRg_9)⟩
                    · have qI : inB b.ops[m].kind 3 5 = true := by rw [e]; rfl
                      have q7 : (b.ops[m].kind == 7) = false := by rw [e]; rfl
                      have q8 : (b.ops[m].kind == 8) = false := by rw [e]; rfl
                      have qH : hasX b.ops[m].kind = true := by rw [e]; rfl
                      clear e
                      have yo : w8.heap.size < w9.heap.size := by omega
                      have xo0 := hBo_9 0 _ rfl
                      have xo1 := hBo_9 1 _ rfl
                      have xo2 := hBo_9 2 _ rfl
                      have xo3 := hBo_9 3 _ rfl
                      have xo4 := hBo_9 4 _ rfl
                      go_wp2_with (go_at_call 37; refine (l1In_any _ _ _ _).mono ?_; rintro e w' ⟨rfl, rfl⟩)
                      go_meet
                      exact ⟨(by rw [qH]), (Ext.hold he9), (by first | omega | (simp; done) | (simp; omega)), (Bx.hold hBb_9), (fz_hold hFb_9), (Bx.hold hBo_9), (fz_hold hFo_9), (FRow.hold hRg_9)⟩
                    · have qI : inB b.ops[m].kind 3 5 = true := by rw [e]; rfl
                      have q7 : (b.ops[m].kind == 7) = false := by rw [e]; rfl
                      have q8 : (b.ops[m].kind == 8) = false := by rw [e]; rfl
                      have qH : hasX b.ops[m].kind = true := by rw [e]; rfl
                      clear e
                      have yo : w8.heap.size < w9.heap.size := by omega
                      have xo0 := hBo_9 0 _ rfl
                      have xo1 := hBo_9 1 _ rfl
                      have xo2 := hBo_9 2 _ rfl
                      have xo3 := hBo_9 3 _ rfl
                      have xo4 := hBo_9 4 _ rfl
                      go_wp2_with (go_at_call 37; refine (l1In_any _ _ _ _).mono ?_; rintro e w' ⟨rfl, rfl⟩)
                      go_meet
                      exact ⟨(by rw [qH]), (Ext.hold he9), (by first | omega | (simp; done) | (simp; omega)), (Bx.hold hBb_9), (fz_hold hFb_9), (Bx.hold hBo_9), (fz_hold hFo_9), (FRow.hold hRg_9)⟩
                    · have qI : inB b.ops[m].kind 3 5 = true := by rw [e]; rfl
                      have q7 : (b.ops[m].kind == 7) = false := by rw [e]; rfl
                      have q8 : (b.ops[m].kind == 8) = false := by rw [e]; rfl
                      have qH : hasX b.ops[m].kind = true := by rw [e]; rfl
                      clear e
                      have yo : w8.heap.size < w9.heap.size := by omega
                      have xo0 := hBo_9 0 _ rfl
                      have xo1 := hBo_9 1 _ rfl
                      have xo2 := hBo_9 2 _ rfl
                      have xo3 := hBo_9 3 _ rfl
                      have xo4 := hBo_9 4 _ rfl
                      go_wp2_with (go_at_call 37; refine (l1In_any _ _ _ _).mono ?_; rintro e w' ⟨rfl, rfl⟩)
                      go_meet
                      exact ⟨(by rw [qH]), (Ext.hold he9), (by first | omega | (simp; done) | (simp; omega)), (Bx.hold hBb_9), (fz_hold hFb_9), (Bx.hold hBo_9), (fz_hold hFo_9), (FRow.hold hRg_9)⟩
                    · have qI : inB b.ops[m].kind 3 5 = false := by rw [e]; rfl
                      have q7 : (b.ops[m].kind == 7) = false := by rw [e]; rfl
                      have q8 : (b.ops[m].kind == 8) = false := by rw [e]; rfl
                      have qH : hasX b.ops[m].kind = false := by rw [e]; rfl
                      clear e
                      have yo : w8.heap.size < w9.heap.size := by omega
                      have xo0 := hBo_9 0 _ rfl
                      have xo1 := hBo_9 1 _ rfl
                      have xo2 := hBo_9 2 _ rfl
                      have xo3 := hBo_9 3 _ rfl
                      have xo4 := hBo_9 4 _ rfl
                      go_wp2_with (go_at_call 37; refine (l1In_any _ _ _ _).mono ?_; rintro e w' ⟨rfl, rfl⟩)
                      go_meet
                      exact ⟨(by rw [qH]), (Ext.hold he9), (by first | omega | (simp; done) | (simp; omega)), (Bx.hold hBb_9), (fz_hold hFb_9), (Bx.hold hBo_9), (fz_hold hFo_9), (FRow.hold hRg_9)⟩
                    · have qI : inB b.ops[m].kind 3 5 = false := by rw [e]; rfl
                      have q7 : (b.ops[m].kind == 7) = true := by rw [e]; rfl
                      have q8 : (b.ops[m].kind == 8) = false := by rw [e]; rfl
                      have qH : hasX b.ops[m].kind = true := by rw [e]; rfl
                      clear e
                      have yo : w8.heap.size < w9.heap.size := by omega
                      have xo0 := hBo_9 0 _ rfl
                      have xo1 := hBo_9 1 _ rfl
                      have xo2 := hBo_9 2 _ rfl
                      have xo3 := hBo_9 3 _ rfl
                      have xo4 := hBo_9 4 _ rfl
                      go_wp2_with (go_at_call 37; refine (l1In_any _ _ _ _).mono ?_; rintro e w' ⟨rfl, rfl⟩)
                      go_meet
                      exact ⟨(by rw [qH]), (Ext.hold he9), (by first | omega | (simp; done) | (simp; omega)), (Bx.hold hBb_9), (fz_hold hFb_9), (Bx.hold hBo_9), (fz_hold hFo_9), (FRow.hold hRg_9)⟩
                    · have qI : inB b.ops[m].kind 3 5 = false := by rw [e]; rfl
                      have q7 : (b.ops[m].kind == 7) = false := by rw [e]; rfl
                      have q8 : (b.ops[m].kind == 8) = true := by rw [e]; rfl
                      have qH : hasX b.ops[m].kind = true := by rw [e]; rfl
                      clear e
                      have yo : w8.heap.size < w9.heap.size := by omega
                      have xo0 := hBo_9 0 _ rfl
                      have xo1 := hBo_9 1 _ rfl
                      have xo2 := hBo_9 2 _ rfl
                      have xo3 := hBo_9 3 _ rfl
                      have xo4 := hBo_9 4 _ rfl
                      go_wp2_with (go_at_call 37; refine (l1In_any _ _ _ _).mono ?_; rintro e w' ⟨rfl, rfl⟩)
                      go_meet
                      exact ⟨(by rw [qH]), (Ext.hold he9), (by first | omega | (simp; done) | (simp; omega)), (Bx.hold hBb_9), (fz_hold hFb_9), (Bx.hold hBo_9), (fz_hold hFo_9), (FRow.hold hRg_9)⟩
                  case rest =>
                    obtain ⟨rfl, he10, hs10, hBb_10, hFb_10, hBo_10, hFo_10, hRg_10⟩ := hcut
                    obtain ⟨w10, hwc⟩ : ∃ w10 : World, w10 = wc := ⟨_, rfl⟩
                    subst hwc
                    clear hBb_9 hFb_9 hBo_9 hFo_9 hRg_9
                    have HLx := hide (show l.length = b.ops.length by simp [hll])
                    have HLy := hide (show (mark l (hasX b.ops[m].kind) b.ops[m].x).length = b.ops.length by rw [mark_length]; simp [hll])
                    have hIx := fun q => (⟨(HKX.out q).1, by have := (HKX.out q).2; omega⟩ : 0 ≤ b.ops[m].x ∧ b.ops[m].x < (b.ops.length : Int))
                    have hIy := fun q => (⟨(HKY.out q).1, by have := (HKY.out q).2; omega⟩ : 0 ≤ b.ops[m].y ∧ b.ops[m].y < (b.ops.length : Int))
                    go_upto_if 78 with fail
                    go_cut [78] (fun s78 wx => Ext w wx ∧ w10.heap.size ≤ wx.heap.size ∧ Bx wx (w.heap.size) [.int .i64 b.pc, .int .i64 b.len, (.slice (some ⟨bb, off, none⟩) b.ops.length cb1), .int .i64 b.fin, .int .i64 b.x, .int .i64 b.y, .int .i64 b.k] ∧ (∀ oo, wx.frozen? ⟨w.heap.size, oo, none⟩ = false) ∧ Bx wx (w8.heap.size) [.int .i64 (b.ops[m].kind), .int .i64 (b.ops[m].x), .int .i64 (b.ops[m].y), .int .i64 (b.ops[m].k), .int .i64 (b.ops[m].at_)] ∧ (∀ oo, wx.frozen? ⟨w8.heap.size, oo, none⟩ = false) ∧ FRow wx (g) 0 (mark (l) (hasX b.ops[m].kind) (b.ops[m].x)))
                    case first =>
                      cases hp : hasX b.ops[m].kind
                      · go_wp2_with fail
                        have e : mark (l) (hasX b.ops[m].kind) (b.ops[m].x) = l := by unfold mark; rw [hp]; rfl
                        go_meet
                        exact ⟨(Ext.hold he10), (by first | omega | (simp; done) | (simp; omega)), (Bx.hold hBb_10), (fz_hold hFb_10), (Bx.hold hBo_10), (fz_hold hFo_10), (by rw [e]; exact hRg_10)⟩
                      · have hi := hIx hp
                        have hi0 := hi.1
                        have hi1 := hi.2
                        have hin : (b.ops[m].x).toNat < (l).length := by rw [HLx.out]; omega
                        have yo : w8.heap.size < w10.heap.size := by omega
                        have xo0 := hBo_10 0 _ rfl
                        have xo1 := hBo_10 1 _ rfl
                        have xo2 := hBo_10 2 _ rfl
                        have xo3 := hBo_10 3 _ rfl
                        have xo4 := hBo_10 4 _ rfl
                        have gc := hRg_10.bool0 (i := (b.ops[m].x).toNat) (hin)
                        have zgc := hRg_10.fz
                        have ygc : g < w10.heap.size := hRg_10.lt
                        go_wp2_with fail
                        have e : mark (l) (hasX b.ops[m].kind) (b.ops[m].x) = (l).set (b.ops[m].x).toNat true := by unfold mark; rw [hp]; rfl
                        go_meet
                        exact ⟨(Ext.hold he10), (by first | omega | (simp; done) | (simp; omega)), (Bx.hold hBb_10), (fz_hold hFb_10), (Bx.hold hBo_10), (fz_hold hFo_10), (by rw [e]; exact hRg_10.setBool0 hin true)⟩
                    case rest =>
                      obtain ⟨he11, hs11, hBb_11, hFb_11, hBo_11, hFo_11, hRg_11⟩ := hcut
                      obtain ⟨w11, hwc⟩ : ∃ w11 : World, w11 = wc := ⟨_, rfl⟩
                      subst hwc
                      clear hBb_10 hFb_10 hBo_10 hFo_10 hRg_10
                      go_upto_region 19 with fail
                      go_cut [90] (fun s90 wx => s90 = .bool (hasY b.ops[m].kind) ∧ Ext w wx ∧ w11.heap.size ≤ wx.heap.size ∧ Bx wx (w.heap.size) [.int .i64 b.pc, .int .i64 b.len, (.slice (some ⟨bb, off, none⟩) b.ops.length cb1), .int .i64 b.fin, .int .i64 b.x, .int .i64 b.y, .int .i64 b.k] ∧ (∀ oo, wx.frozen? ⟨w.heap.size, oo, none⟩ = false) ∧ Bx wx (w8.heap.size) [.int .i64 (b.ops[m].kind), .int .i64 (b.ops[m].x), .int .i64 (b.ops[m].y), .int .i64 (b.ops[m].k), .int .i64 (b.ops[m].at_)] ∧ (∀ oo, wx.frozen? ⟨w8.heap.size, oo, none⟩ = false) ∧ FRow wx (g) 0 (mark (l) (hasX b.ops[m].kind) (b.ops[m].x)))
                      case first =>
                        have HC : b.ops[m].kind = 1 ∨ b.ops[m].kind = 2 ∨ b.ops[m].kind = 3 ∨ b.ops[m].kind = 4 ∨ b.ops[m].kind = 5 ∨ b.ops[m].kind = 6 ∨ b.ops[m].kind = 7 ∨ b.ops[m].kind = 8 := by omega
                        rcases HC with e | e | e | e | e | e | e | e
                        · have q3 : (b.ops[m].kind == 3) = false := by rw [e]; rfl
                          have q5 : (b.ops[m].kind == 5) = false := by rw [e]; rfl
                          have qH : hasY b.ops[m].kind = false := by rw [e]; rfl
                          clear e
                          have yo : w8.heap.size < w11.heap.size := by omega
                          have xo0 := hBo_11 0 _ rfl
                          have xo1 := hBo_11 1 _ rfl
                          have xo2 := hBo_11 2 _ rfl
                          have xo3 := hBo_11 3 _ rfl
                          have xo4 := hBo_11 4 _ rfl
                          go_wp2_with fail
                          go_meet
                          exact ⟨(by rw [qH]), (Ext.hold he11), (by first | omega | (simp; done) | (simp; omega)), (Bx.hold hBb_11), (fz_hold hFb_11), (Bx.hold hBo_11), (fz_hold hFo_11), (FRow.hold hRg_11)⟩
                        · have q3 : (b.ops[m].kind == 3) = false := by rw [e]; rfl
                          have q5 : (b.ops[m].kind == 5) = false := by rw [e]; rfl
                          have qH : hasY b.ops[m].kind = false := by rw [e]; rfl
                          clear e
                          have yo : w8.heap.size < w11.heap.size := by omega
                          have xo0 := hBo_11 0 _ rfl
                          have xo1 := hBo_11 1 _ rfl
                          have xo2 := hBo_11 2 _ rfl
                          have xo3 := hBo_11 3 _ rfl
                          have xo4 := hBo_11 4 _ rfl
                          go_wp2_with fail
                          go_meet
                          exact ⟨(by rw [qH]), (Ext.hold he11), (by first | omega | (simp; done) | (simp; omega)), (Bx.hold hBb_11), (fz_hold hFb_11), (Bx.hold hBo_11), (fz_hold hFo_11), (FRow.hold hRg_11)⟩
                        · have q3 : (b.ops[m].kind == 3) = true := by rw [e]; rfl
                          have q5 : (b.ops[m].kind == 5) = false := by rw [e]; rfl
                          have qH : hasY b.ops[m].kind = true := by rw [e]; rfl
                          clear e
                          have yo : w8.heap.size < w11.heap.size := by omega
                          have xo0 := hBo_11 0 _ rfl
                          have xo1 := hBo_11 1 _ rfl
                          have xo2 := hBo_11 2 _ rfl
                          have xo3 := hBo_11 3 _ rfl
                          have xo4 := hBo_11 4 _ rfl
                          go_wp2_with fail
                          go_meet
                          exact ⟨(by rw [qH]), (Ext.hold he11), (by first | omega | (simp; done) | (simp; omega)), (Bx.hold hBb_11), (fz_hold hFb_11), (Bx.hold hBo_11), (fz_hold hFo_11), (FRow.hold hRg_11)⟩
                        · have q3 : (b.ops[m].kind == 3) = false := by rw [e]; rfl
                          have q5 : (b.ops[m].kind == 5) = false := by rw [e]; rfl
                          have qH : hasY b.ops[m].kind = false := by rw [e]; rfl
                          clear e
                          have yo : w8.heap.size < w11.heap.size := by omega
                          have xo0 := hBo_11 0 _ rfl
                          have xo1 := hBo_11 1 _ rfl
                          have xo2 := hBo_11 2 _ rfl
                          have xo3 := hBo_11 3 _ rfl
                          have xo4 := hBo_11 4 _ rfl
                          go_wp2_with fail
                          go_meet
                          exact ⟨(by rw [qH]), (Ext.hold he11), (by first | omega | (simp; done) | (simp; omega)), (Bx.hold hBb_11), (fz_hold hFb_11), (Bx.hold hBo_11), (fz_hold hFo_11), (FRow.hold hRg_11)⟩
                        · have q3 : (b.ops[m].kind == 3) = false := by rw [e]; rfl
                          have q5 : (b.ops[m].kind == 5) = true := by rw [e]; rfl
                          have qH : hasY b.ops[m].kind = true := by rw [e]; rfl
                          clear e
                          have yo : w8.heap.size < w11.heap.size := by omega
                          have xo0 := hBo_11 0 _ rfl
                          have xo1 := hBo_11 1 _ rfl
                          have xo2 := hBo_11 2 _ rfl
                          have xo3 := hBo_11 3 _ rfl
                          have xo4 := hBo_11 4 _ rfl
                          go_wp2_with fail
                          go_meet
                          exact ⟨(by rw [qH]), (Ext.hold he11), (by first | omega | (simp; done) | (simp; omega)), (Bx.hold hBb_11), (fz_hold hFb_11), (Bx.hold hBo_11), (fz_hold hFo_11), (FRow.hold hRg_11)⟩
                        · have q3 : (b.ops[m].kind == 3) = false := by rw [e]; rfl
                          have q5 : (b.ops[m].kind == 5) = false := by rw [e]; rfl
                          have qH : hasY b.ops[m].kind = false := by rw [e]; rfl
                          clear e
                          have yo : w8.heap.size < w11.heap.size := by omega
                          have xo0 := hBo_11 0 _ rfl
                          have xo1 := hBo_11 1 _ rfl
                          have xo2 := hBo_11 2 _ rfl
                          have xo3 := hBo_11 3 _ rfl
                          have xo4 := hBo_11 4 _ rfl
                          go_wp2_with fail
                          go_meet
                          exact ⟨(by rw [qH]), (Ext.hold he11), (by first | omega | (simp; done) | (simp; omega)), (Bx.hold hBb_11), (fz_hold hFb_11), (Bx.hold hBo_11), (fz_hold hFo_11), (FRow.hold hRg_11)⟩
                        · have q3 : (b.ops[m].kind == 3) = false := by rw [e]; rfl
                          have q5 : (b.ops[m].kind == 5) = false := by rw [e]; rfl
                          have qH : hasY b.ops[m].kind = false := by rw [e]; rfl
                          clear e
                          have yo : w8.heap.size < w11.heap.size := by omega
                          have xo0 := hBo_11 0 _ rfl
                          have xo1 := hBo_11 1 _ rfl
                          have xo2 := hBo_11 2 _ rfl
                          have xo3 := hBo_11 3 _ rfl
                          have xo4 := hBo_11 4 _ rfl
                          go_wp2_with fail
                          go_meet
                          exact ⟨(by rw [qH]), (Ext.hold he11), (by first | omega | (simp; done) | (simp; omega)), (Bx.hold hBb_11), (fz_hold hFb_11), (Bx.hold hBo_11), (fz_hold hFo_11), (FRow.hold hRg_11)⟩
                        · have q3 : (b.ops[m].kind == 3) = false := by rw [e]; rfl
                          have q5 : (b.ops[m].kind == 5) = false := by rw [e]; rfl
                          have qH : hasY b.ops[m].kind = false := by rw [e]; rfl
                          clear e
                          have yo : w8.heap.size < w11.heap.size := by omega
                          have xo0 := hBo_11 0 _ rfl
                          have xo1 := hBo_11 1 _ rfl
                          have xo2 := hBo_11 2 _ rfl
                          have xo3 := hBo_11 3 _ rfl
                          have xo4 := hBo_11 4 _ rfl
                          go_wp2_with fail
                          go_meet
                          exact ⟨(by rw [qH]), (Ext.hold he11), (by first | omega | (simp; done) | (simp; omega)), (Bx.hold hBb_11), (fz_hold hFb_11), (Bx.hold hBo_11), (fz_hold hFo_11), (FRow.hold hRg_11)⟩
                      case rest =>
                        obtain ⟨rfl, he12, hs12, hBb_12, hFb_12, hBo_12, hFo_12, hRg_12⟩ := hcut
                        obtain ⟨w12, hwc⟩ : ∃ w12 : World, w12 = wc := ⟨_, rfl⟩
                        subst hwc
                        clear hBb_11 hFb_11 hBo_11 hFo_11 hRg_11
                        cases hp : hasY b.ops[m].kind
                        · go_wp2_with fail
                          have e : mark (mark (l) (hasX b.ops[m].kind) (b.ops[m].x)) (hasY b.ops[m].kind) (b.ops[m].y) = mark (l) (hasX b.ops[m].kind) (b.ops[m].x) := by unfold mark; rw [hp]; rfl
                          go_roundw
                          case rel => exact ⟨m, mark (mark (l) (hasX b.ops[m].kind) (b.ops[m].x)) (hasY b.ops[m].kind) (b.ops[m].y), by omega, by go_num, by rw [mark_length, mark_length]; simp [hll], by have h1 := HGS.out; rw [usedStepS_yes HV.out] at h1; exact h1, (Ext.hold he12), (by first | omega | (simp; omega)), (Bx.hold hBb_12), (fz_hold hFb_12), (by rw [e]; exact hRg_12)⟩
                          case measure => (simp [intOf]; try omega)
                        · have hi := hIy hp
                          have hi0 := hi.1
                          have hi1 := hi.2
                          have hin : (b.ops[m].y).toNat < (mark (l) (hasX b.ops[m].kind) (b.ops[m].x)).length := by rw [HLy.out]; omega
                          have yo : w8.heap.size < w12.heap.size := by omega
                          have xo0 := hBo_12 0 _ rfl
                          have xo1 := hBo_12 1 _ rfl
                          have xo2 := hBo_12 2 _ rfl
                          have xo3 := hBo_12 3 _ rfl
                          have xo4 := hBo_12 4 _ rfl
                          have gc := hRg_12.bool0 (i := (b.ops[m].y).toNat) (hin)
                          have zgc := hRg_12.fz
                          have ygc : g < w12.heap.size := hRg_12.lt
                          go_wp2_with fail
                          have e : mark (mark (l) (hasX b.ops[m].kind) (b.ops[m].x)) (hasY b.ops[m].kind) (b.ops[m].y) = (mark (l) (hasX b.ops[m].kind) (b.ops[m].x)).set (b.ops[m].y).toNat true := by unfold mark; rw [hp]; rfl
                          go_roundw
                          case rel => exact ⟨m, mark (mark (l) (hasX b.ops[m].kind) (b.ops[m].x)) (hasY b.ops[m].kind) (b.ops[m].y), by omega, by go_num, by rw [mark_length, mark_length]; simp [hll], by have h1 := HGS.out; rw [usedStepS_yes HV.out] at h1; exact h1, (Ext.hold he12), (by first | omega | (simp; omega)), (Bx.hold hBb_12), (fz_hold hFb_12), (by rw [e]; exact hRg_12.setBool0 hin true)⟩
                          case measure => (simp [intOf]; try omega)

end Go.Proofs.Yteaacelfnkiboaa
