/-
  BytesS
-/
import Derived.Test.YteaacelfnkiboaaZBytesI
namespace Go.Proofs.Yteaacelfnkiboaa
open Go.RowKit

set_option linter.unusedVariables false
set_option linter.unusedSimpArgs false
set_option maxRecDepth 100000

theorem op_kr {ops : List IrOp} {o : IrOp} {n size : Int} (h : opOkB ops o n size = true) : 0 ≤ o.k ∧ o.k ≤ 65535 := by
  unfold opOkB at h
  repeat' split at h
  all_goals (try simp [wordB, inB] at h)
  all_goals omega
theorem end_kr {b : IrBlock} (h : endOkB b = true) : 0 ≤ b.k ∧ b.k ≤ 65535 := by
  unfold endOkB at h
  repeat' split at h
  all_goals (try simp [wordB] at h)
  all_goals omega
set_option maxHeartbeats 16000000 in
theorem specIrBytes_any (b : IrBlock) (vb1 : Value) (w : World) (hb1 : Sl w (Old w) vb1 b.ops) (hkb : b.Ok) :
    Calls Try.prog 18 #[.agg #[.int .i64 b.pc, .int .i64 b.len, vb1, .int .i64 b.fin, .int .i64 b.x, .int .i64 b.y, .int .i64 b.k]] w fun e w' => ∃ r F, e = .returned r ∧ OwnSl w' r (irBytes b) F ∧ Fr w w' F ∧ Ext w w' := by
  obtain ⟨i0, hi, hz0, hz1, hz2⟩ := info_parts infbUInt8
  have HI0 := hide hi
  have HZ00 := hide hz0
  have HZ10 := hide hz1
  have HZ20 := hide hz2
  clear hi hz0 hz1 hz2
  obtain ⟨Ab1, cb1, rfl, hlb1, hmb1⟩ := hb1.form
  go_enter Try.func18, Try.ntmps18
  go_wp2_with fail
  have he0 : Ext w (w.alloc (Obj.cells #[.int .i64 b.pc, .int .i64 b.len, (.slice Ab1 b.ops.length cb1), .int .i64 b.fin, .int .i64 b.x, .int .i64 b.y, .int .i64 b.k] 25)) := (Ext.auto)
  have hs0 : w.heap.size + 1 ≤ ((w.alloc (Obj.cells #[.int .i64 b.pc, .int .i64 b.len, (.slice Ab1 b.ops.length cb1), .int .i64 b.fin, .int .i64 b.x, .int .i64 b.y, .int .i64 b.k] 25))).heap.size := by simp
  have hq0 := hide (show ((w.alloc (Obj.cells #[.int .i64 b.pc, .int .i64 b.len, (.slice Ab1 b.ops.length cb1), .int .i64 b.fin, .int .i64 b.x, .int .i64 b.y, .int .i64 b.k] 25))).heap.size = w.heap.size + 1 by simp)
  have hBb_0 : Bx (w.alloc (Obj.cells #[.int .i64 b.pc, .int .i64 b.len, (.slice Ab1 b.ops.length cb1), .int .i64 b.fin, .int .i64 b.x, .int .i64 b.y, .int .i64 b.k] 25)) (w.heap.size) [.int .i64 b.pc, .int .i64 b.len, (.slice Ab1 b.ops.length cb1), .int .i64 b.fin, .int .i64 b.x, .int .i64 b.y, .int .i64 b.k] := (by have := (Bx.new w #[.int .i64 b.pc, .int .i64 b.len, (.slice Ab1 b.ops.length cb1), .int .i64 b.fin, .int .i64 b.x, .int .i64 b.y, .int .i64 b.k] 25); simpa using this)
  have hFb_0 : ∀ oo, ((w.alloc (Obj.cells #[.int .i64 b.pc, .int .i64 b.len, (.slice Ab1 b.ops.length cb1), .int .i64 b.fin, .int .i64 b.x, .int .i64 b.y, .int .i64 b.k] 25))).frozen? ⟨w.heap.size, oo, none⟩ = false := fun oo => by simp
  generalize (w.alloc (Obj.cells #[.int .i64 b.pc, .int .i64 b.len, (.slice Ab1 b.ops.length cb1), .int .i64 b.fin, .int .i64 b.x, .int .i64 b.y, .int .i64 b.k] 25)) = w0 at *
  refine (specIrOk_any b _ _ (hb1.ext he0) hkb).mono ?_
  rintro e w1 ⟨rfl, hy⟩
  have hx1 : Ext w0 w1 := Ext.trans (Ext.auto) hy
  have hs1 := hx1.size
  have he1 : Ext w w1 := he0.trans hx1
  have hBb_1 : Bx w1 (w.heap.size) [.int .i64 b.pc, .int .i64 b.len, (.slice Ab1 b.ops.length cb1), .int .i64 b.fin, .int .i64 b.x, .int .i64 b.y, .int .i64 b.k] := hx1.bx hBb_0 (by omega)
  have hFb_1 : ∀ oo, w1.frozen? ⟨w.heap.size, oo, none⟩ = false := fun oo => (hx1.frozen (by omega)).trans (hFb_0 oo)
  clear hBb_0 hFb_0
  clear hy
  cases hok : irOkB b
  · 
    have HNO := hide (show irBytes b = [] by unfold irBytes; rw [hok]; rfl)
    clear hok
    go_wp2
    go_ret
    exact ⟨_, [], rfl, by rw [HNO.out]; exact ⟨_, 0, rfl, Nat.le_refl _, by simp [maxLen], fun h => by simp at h, fun _ => rfl, fun h => absurd rfl h⟩, Fr.nil _ _, (Ext.hold he1)⟩
  have HOK := hide hok
  clear hok
  have hn48 := ok_n HOK.out
  unfold maxLen at hmb1
  have hA0 : App w1 (w1.alloc (.cells #[.int .u8 (b.pc % 256), .int .u8 (b.len % 256), .int .u8 (b.fin % 256), .int .u8 (b.x % 256), .int .u8 (b.y % 256)] 5)) 5 (.slice (some ⟨w1.heap.size, 0, none⟩) 5 5) ([b8 b.pc, b8 b.len, b8 b.fin, b8 b.x, b8 b.y] : List UInt8) _ _ := App.built w1 5 #[.int .u8 (b.pc % 256), .int .u8 (b.len % 256), .int .u8 (b.fin % 256), .int .u8 (b.x % 256), .int .u8 (b.y % 256)] [b8 b.pc, b8 b.len, b8 b.fin, b8 b.x, b8 b.y] rfl rfl (by intro i a u ha hu; (rcases i with _ | _ | _ | _ | _ | _ | _ | i) <;> simp [opBytes] at ha hu <;> (try subst ha) <;> (try subst hu) <;> first | (exact b8_rep _) | (exfalso; simp_all)) (by simp [maxLen])
  have HB := hide (show irBytes b = [b8 b.pc, b8 b.len, b8 b.fin, b8 b.x, b8 b.y, b8 (b.k / 256), b8 b.k] ++ b.ops.flatMap opBytes by unfold irBytes; rw [HOK.out]; rfl)
  have HKE := end_kr (ok_end HOK.out)
  have yb : w.heap.size < w1.heap.size := by omega
  have xb0 := hBb_1 0 _ rfl
  have xb1 := hBb_1 1 _ rfl
  have xb2 := hBb_1 2 _ rfl
  have xb3 := hBb_1 3 _ rfl
  have xb4 := hBb_1 4 _ rfl
  have xb5 := hBb_1 5 _ rfl
  have xb6 := hBb_1 6 _ rfl
  go_wp2_with fail
  clear xb0 xb1 xb2 xb3 xb4 xb5 xb6 yb
  refine (l11Two_any b.k _ w1 _ _ _ _ hA0 HKE.1 (by omega) (by simp)).mono ?_
  rintro e w2 ⟨v2, rfl, ⟨Fs2, xs2, hA2⟩, -, -⟩
  have HB1 := hide hBb_1
  have HF1 := hide hFb_1
  clear hBb_1 hFb_1 hA0
  have he2 := he1.trans hA2.ext
  have hs2 := hA2.ext.size
  have hBb_2 := hA2.ext.bx HB1.out (by omega)
  have hFb_2 := fun oo => (hA2.ext.frozen (b := w.heap.size) (o := oo) (by omega)).trans (HF1.out oo)
  go_wp2_with fail
  go_loopw [3, 4] (fun v i w3 => ∃ (k : Nat) (Fs : List (List Nat)) (xs : List Value), k ≤ b.ops.length ∧ i = .int .i64 (k : Int) ∧ App w1 w3 5 v ([b8 b.pc, b8 b.len, b8 b.fin, b8 b.x, b8 b.y, b8 (b.k / 256), b8 b.k] ++ (b.ops.take (k)).flatMap opBytes) Fs xs ∧ Ext w w3 ∧ w1.heap.size ≤ w3.heap.size ∧ Bx w3 (w.heap.size) [.int .i64 b.pc, .int .i64 b.len, (.slice Ab1 b.ops.length cb1), .int .i64 b.fin, .int .i64 b.x, .int .i64 b.y, .int .i64 b.k] ∧ (∀ oo, w3.frozen? ⟨w.heap.size, oo, none⟩ = false)) (fun _ i _ => b.ops.length - (intOf i).toNat)
  case atStart => exact ⟨0, _, _, by omega, rfl, hA2, he2, hs2, hBb_2, hFb_2⟩
  case round =>
    clear hA2 hBb_2 hFb_2
    obtain ⟨w3, hwr⟩ : ∃ w3 : World, w3 = wr := ⟨_, rfl⟩
    subst hwr
    obtain ⟨k, Fs, xs, hk, rfl, hA, he3, hs3, hBb_3, hFb_3⟩ := hrel
    by_cases hlt : k < b.ops.length
    · 
      have z0 : (0 : Int) ≤ (k : Int) := by omega
      have z1 : (k : Int) < (b.ops.length : Int) := by omega
      obtain ⟨bb, off, rfl, hbo, hk0, e0, e1, e2, e3, e4⟩ := at_IrOp (hb1.ext he3) hlt
      have hbl : bb < w3.heap.size := hbo
      have HKR := op_kr (ok_ops HOK.out k hlt)
      have HT := hide (show ([b8 b.pc, b8 b.len, b8 b.fin, b8 b.x, b8 b.y, b8 (b.k / 256), b8 b.k] ++ (b.ops.take (k + 1)).flatMap opBytes) = ([b8 b.pc, b8 b.len, b8 b.fin, b8 b.x, b8 b.y, b8 (b.k / 256), b8 b.k] ++ (b.ops.take (k)).flatMap opBytes) ++ opBytes b.ops[k] by rw [List.take_succ_eq_append_getElem hlt, List.flatMap_append, List.append_assoc]; simp)
      have HL := hide (show ([b8 b.pc, b8 b.len, b8 b.fin, b8 b.x, b8 b.y, b8 (b.k / 256), b8 b.k] ++ (b.ops.take (k)).flatMap opBytes).length = 7 + 6 * k by rw [List.length_append, flatMap_len, List.length_take, Nat.min_eq_left hk]; rfl)
      have yb : w.heap.size < w3.heap.size := by omega
      have xb0 := hBb_3 0 _ rfl
      have xb1 := hBb_3 1 _ rfl
      have xb2 := hBb_3 2 _ rfl
      have xb3 := hBb_3 3 _ rfl
      have xb4 := hBb_3 4 _ rfl
      have xb5 := hBb_3 5 _ rfl
      have xb6 := hBb_3 6 _ rfl
      go_upto_region 10 with (at_builtin; go_must (refine wpList_append_flat2 (α := UInt8) (w0 := w1) rfl _ _ 22 rfl i0 _ 1 Try.underlying22 HI0.out HZ00.out HZ10.out HZ20.out rfl (hA.call (((Ext.refl _).alloc _).alloc _)) rfl _ [b8 b.ops[k].kind, b8 b.ops[k].x, b8 b.ops[k].y] _ rfl ((FRow.built _ 5 #[.int .u8 (b.ops[k].kind % 256), .int .u8 (b.ops[k].x % 256), .int .u8 (b.ops[k].y % 256)] [b8 b.ops[k].kind, b8 b.ops[k].x, b8 b.ops[k].y] rfl rfl (by intro i a u ha hu; (rcases i with _ | _ | _ | _ | _ | _ | _ | i) <;> simp [opBytes] at ha hu <;> (try subst ha) <;> (try subst hu) <;> first | (exact b8_rep _) | (exfalso; simp_all)) (by first | rfl | simp)).sl rfl (Nat.le_refl _) (by simp [maxLen])) (by rw [HL.out]; simp; unfold maxLen; omega) (by rw [HL.out]; simp; omega) ?_); intro v' w9 Fs' xs' hA9 hg9 hb9)
      clear xb0 xb1 xb2 xb3 xb4 xb5 xb6 yb
      have hMv : Moved u3 v' w3 := hb9.imp id (fun h => ⟨_, h, by simp; omega⟩)
      have hBo9 := (Bx.alloc (Bx.new w3 #[.int .i64 (b.ops[k].kind), .int .i64 (b.ops[k].x), .int .i64 (b.ops[k].y), .int .i64 (b.ops[k].k), .int .i64 (b.ops[k].at_)] 58) (by simp) #[.int .u8 (b.ops[k].kind % 256), .int .u8 (b.ops[k].x % 256), .int .u8 (b.ops[k].y % 256)] 5).grown hg9 (by simp; omega) (hA.lt2 (Nat.le_refl _))
      have hne9 : some w3.heap.size ≠ v'.ownBlock := by
        rcases hb9 with h | h
        · rw [h]; exact hA.lt2 (Nat.le_refl _)
        · rw [h]; intro q; injection q with q; simp at q; omega
      have hs9 : w3.heap.size + 1 ≤ w9.heap.size := by have := hg9.size; simp at this; omega
      have hyo : w3.heap.size < w9.heap.size := by omega
      have hx0 : w9.cell? ⟨w3.heap.size, 3, none⟩ = some (.int .i64 b.ops[k].k) := hBo9 3 _ rfl
      have hx1 : w9.cell? ⟨w3.heap.size, 4, none⟩ = some (.int .i64 b.ops[k].at_) := hBo9 4 _ rfl
      have HL9 := hide (show (([b8 b.pc, b8 b.len, b8 b.fin, b8 b.x, b8 b.y, b8 (b.k / 256), b8 b.k] ++ (b.ops.take (k)).flatMap opBytes) ++ [b8 b.ops[k].kind, b8 b.ops[k].x, b8 b.ops[k].y]).length = 7 + 6 * k + 3 by rw [List.length_append, HL.out]; rfl)
      clear hg9 hb9 hBo9 e0 e1 e2 e3 e4 hbo hbl hA
      have hS : ∀ w', Near v'.ownBlock w9 w' → ∀ oo, w'.cell? ⟨w3.heap.size, oo, none⟩ = w9.cell? ⟨w3.heap.size, oo, none⟩ := fun w' hN oo => hN.cell hyo hne9
      refine wp_region_plan (fun w' => Near v'.ownBlock w9 w') 8 (.float 0 (.float 1 (.float 2 (.float 4 (.float 5 (.float 6 (.fork 3 7 (.chain 7 (.tail 8)) (.chain 3 (.tail 8))))))))) (by kernel_rfl) (by kernel_rfl) (Near.ext (Near.refl _ _) (Ext.refl _).drew) ?_
      iterate 6 ((refine Plan.float_step (v := ?_) rfl (by rfl) (fun _ _ _ h => h) (fun w' hSw => ?_) ?_; rotate_left; · (go_simp; try with_reducible rfl)); (try simp only [Act.put, List.setIfInBounds_toArray, List.set_cons_zero, List.set_cons_succ]))
      have HL11 := hide (show (([b8 b.pc, b8 b.len, b8 b.fin, b8 b.x, b8 b.y, b8 (b.k / 256), b8 b.k] ++ (b.ops.take (k)).flatMap opBytes) ++ [b8 b.ops[k].kind, b8 b.ops[k].x, b8 b.ops[k].y] ++ [b8 (b.ops[k].k / 256), b8 b.ops[k].k]).length = 7 + 6 * k + 5 by rw [List.length_append, HL9.out]; rfl)
      refine Plan.fork_step ?_ ?_
      · refine Plan.chain_step rfl (fun K hK => ?_)
        go_simp
        refine (l11Two_any b.ops[k].k _ w1 _ _ _ _ (hA9.call (Ext.refl _).drew) HKR.1 (by omega) (by rw [HL9.out]; omega)).mono ?_
        rintro e wa ⟨va, rfl, ⟨Fa, xa, hAa⟩, hNa, hMa⟩
        have hN2 := Near.trans (Near.ext (Near.refl _ _) (Ext.refl w9).drew) hNa
        refine hK.out _ _ hN2 ?_
        clear hK
        (try simp only [Act.put, List.setIfInBounds_toArray, List.set_cons_zero, List.set_cons_succ])
        refine Plan.chain_step rfl (fun K hK => ?_)
        go_simp
        refine hK.out _ _ (Near.ext hN2 ((Ext.refl _).alloc _)) ?_
        clear hK
        (try simp only [Act.put, List.setIfInBounds_toArray, List.set_cons_zero, List.set_cons_succ])
        refine Plan.tail_step ?_
        simp only [List.drop_succ_cons, List.drop_zero]
        clear hS
        go_wp2_with (at_builtin; go_must (refine wpList_append_flat2 (α := UInt8) (w0 := w1) rfl _ _ 22 rfl i0 _ 1 Try.underlying22 HI0.out HZ00.out HZ10.out HZ20.out rfl (hAa.call ((Ext.refl _).alloc _)) rfl _ [b8 b.ops[k].at_] _ rfl ((FRow.built _ 5 #[.int .u8 (b.ops[k].at_ % 256)] [b8 b.ops[k].at_] rfl rfl (by intro i a u ha hu; (rcases i with _ | _ | _ | _ | _ | _ | _ | i) <;> simp [opBytes] at ha hu <;> (try subst ha) <;> (try subst hu) <;> first | (exact b8_rep _) | (exfalso; simp_all)) (by first | rfl | simp)).sl rfl (Nat.le_refl _) (by simp [maxLen])) (by rw [HL11.out]; simp; unfold maxLen; omega) (by rw [HL11.out]; simp; omega) ?_); intro v8 w8 Fs8 xs8 hA8 hg8 hb8)
        go_roundw
        case rel => exact ⟨k + 1, _, _, by omega, by go_num, by rw [HT.out]; simpa [opBytes, List.append_assoc] using hA8, he1.trans hA8.ext, hA8.ext.size, hA8.ext.bx HB1.out (by omega), fun oo => (hA8.ext.frozen (b := w.heap.size) (o := oo) (by omega)).trans (HF1.out oo)⟩
        case measure => (simp [intOf]; try omega)
      · refine Plan.chain_step rfl (fun K hK => ?_)
        go_simp
        refine hK.out _ _ (Near.ext (Near.ext (Near.refl _ _) (Ext.refl _).drew) ((Ext.refl _).alloc _)) ?_
        clear hK
        (try simp only [Act.put, List.setIfInBounds_toArray, List.set_cons_zero, List.set_cons_succ])
        have hSl := (FRow.built w9.drew 5 #[.int .u8 (b.ops[k].at_ % 256)] [b8 b.ops[k].at_] rfl rfl (by intro i a u ha hu; (rcases i with _ | _ | _ | _ | _ | _ | _ | i) <;> simp [opBytes] at ha hu <;> (try subst ha) <;> (try subst hu) <;> first | (exact b8_rep _) | (exfalso; simp_all)) (g := w9.heap.size) (by first | rfl | simp)).slAt rfl (Nat.le_refl _) (by simp [maxLen])
        refine Plan.chain_step rfl (fun K hK => ?_)
        go_simp
        refine (l11Two_any b.ops[k].k _ w1 _ _ _ _ (hA9.call (((Ext.refl _).drew).alloc (.cells #[.int .u8 (b.ops[k].at_ % 256)] 5))) HKR.1 (by omega) (by rw [HL9.out]; omega)).mono ?_
        rintro e wa ⟨va, rfl, ⟨Fa, xa, hAa⟩, hNa, hMa⟩
        have hN2 := Near.trans (Near.ext (Near.ext (Near.refl _ _) (Ext.refl w9).drew) ((Ext.refl _).alloc (.cells #[.int .u8 (b.ops[k].at_ % 256)] 5))) hNa
        refine hK.out _ _ hN2 ?_
        clear hK
        (try simp only [Act.put, List.setIfInBounds_toArray, List.set_cons_zero, List.set_cons_succ])
        have hSl2 := hSl.keep (w' := wa) (fun b o hb => by subst hb; exact hNa.cell (by first | (simp; done) | (simp; omega)) (hA9.lt2 (Nat.le_refl _))) (fun _ h => h)
        refine Plan.tail_step ?_
        simp only [List.drop_succ_cons, List.drop_zero]
        clear hS
        go_wp2_with (at_builtin; go_must (refine wpList_append_flat2 (α := UInt8) (w0 := w1) rfl _ _ 22 rfl i0 _ 1 Try.underlying22 HI0.out HZ00.out HZ10.out HZ20.out rfl hAa rfl _ [b8 b.ops[k].at_] _ rfl hSl2 (by rw [HL11.out]; simp; unfold maxLen; omega) (by rw [HL11.out]; simp; omega) ?_); intro v8 w8 Fs8 xs8 hA8 hg8 hb8)
        go_roundw
        case rel => exact ⟨k + 1, _, _, by omega, by go_num, by rw [HT.out]; simpa [opBytes, List.append_assoc] using hA8, he1.trans hA8.ext, hA8.ext.size, hA8.ext.bx HB1.out (by omega), fun oo => (hA8.ext.frozen (b := w.heap.size) (o := oo) (by omega)).trans (HF1.out oo)⟩
        case measure => (simp [intOf]; try omega)
    · 
      obtain rfl : k = b.ops.length := by omega
      rw [List.take_length] at hA
      have yb : w.heap.size < w3.heap.size := by omega
      have xb0 := hBb_3 0 _ rfl
      have xb1 := hBb_3 1 _ rfl
      have xb2 := hBb_3 2 _ rfl
      have xb3 := hBb_3 3 _ rfl
      have xb4 := hBb_3 4 _ rfl
      have xb5 := hBb_3 5 _ rfl
      have xb6 := hBb_3 6 _ rfl
      go_wp2
      go_ret
      obtain ⟨F, ho, hf⟩ := hA.done
      first
      | exact ⟨_, F, rfl, by rw [HB.out]; exact ho, hf.mk1 (by omega) (Nat.le_refl _), he3⟩
      | exact ⟨_, rfl, F, by rw [HB.out]; exact ho, hf.mk1 (by omega) (Nat.le_refl _), he3⟩

end Go.Proofs.Yteaacelfnkiboaa
