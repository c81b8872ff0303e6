/-
  BytesI, DrawO, IrSame, BytesT
-/
import Derived.Test.YteaacelfnkiboaaZUsedS
import Derived.Test.YteaacelfnkiboaaZOptDead
import Derived.Test.YteaacelfnkiboaaZIrOkK
import Derived.Test.YteaacelfnkiboaaZRegLib
import Derived.Test.YteaacelfnkiboaaZCertLib
import Derived.Test.YteaacelfnkiboaaZByteLib
import Derived.Test.YteaacelfnkiboaaZRoom0Lib
import Derived.Test.YteaacelfnkiboaaZRead
import Derived.Test.YteaacelfnkiboaaZDrawF
import Derived.Test.YteaacelfnkiboaaZMarkLib
import Derived.Deep.DeepCutAuto
import Derived.Test.YteaacelfnkiboaaRows
import Derived.Laws.StructEq
import Derived.Deep.QuietTactic
import Derived.BigQuiet
import Derived.StillTailTactics
namespace Go.Proofs.Yteaacelfnkiboaa
open Go.RowKit

set_option linter.unusedVariables false
set_option linter.unusedSimpArgs false
set_option maxRecDepth 100000

theorem infbUInt8 : (Try.prog.info? 5).map (fun i => (i.zero, i.size, i.bytes)) = some (some (.int .u8 0), 1, 1) := by kernel_rfl

theorem b8_val (n : Int) : ((b8 n).toNat : Int) = n % 256 := by
  unfold b8
  have h0 := Int.emod_nonneg n (show (256 : Int) ≠ 0 by decide)
  have h1 := Int.emod_lt_of_pos n (show (0 : Int) < 256 by decide)
  have h2 : (n % 256).toNat < 256 := by omega
  rw [UInt8.toNat_ofNat_of_lt' (by simpa using h2)]
  omega
theorem b8_rep {w : World} {S : Nat → Prop} (n : Int) : Rep.rep w S [Value.int .u8 (n % 256)] (b8 n) := by
  show [Value.int .u8 (n % 256)] = [Value.int .u8 ((b8 n).toNat : Int)]
  rw [b8_val]
theorem flatMap_len : ∀ l : List IrOp, (l.flatMap opBytes).length = 6 * l.length
  | [] => rfl
  | o :: l => by rw [List.flatMap_cons, List.length_append, flatMap_len l]; simp [opBytes]; omega

set_option maxHeartbeats 16000000 in
theorem implIrBytes_any (b : IrBlock) (vb1 : Value) (w : World) (hb1 : Sl w (Old w) vb1 b.ops) (hkb : b.Ok) :
    Calls Try.prog 13 #[.agg #[.int .i64 b.pc, .int .i64 b.len, vb1, .int .i64 b.fin, .int .i64 b.x, .int .i64 b.y, .int .i64 b.k]] w fun e w' => ∃ r F, e = .returned r ∧ OwnSl w' r (irBytes b) F ∧ Fr w w' F ∧ Ext w w' := by
  obtain ⟨i0, hi, hz0, hz1, hz2⟩ := info_parts infbUInt8
  have HI0 := hide hi
  have HZ00 := hide hz0
  have HZ10 := hide hz1
  have HZ20 := hide hz2
  clear hi hz0 hz1 hz2
  obtain ⟨Ab1, cb1, rfl, hlb1, hmb1⟩ := hb1.form
  go_enter Try.func13, Try.ntmps13
  go_wp2_with fail
  have he0 : Ext w (w.alloc (Obj.cells #[.int .i64 b.pc, .int .i64 b.len, (.slice Ab1 b.ops.length cb1), .int .i64 b.fin, .int .i64 b.x, .int .i64 b.y, .int .i64 b.k] 25)) := (Ext.auto)
  have hs0 : w.heap.size + 1 ≤ ((w.alloc (Obj.cells #[.int .i64 b.pc, .int .i64 b.len, (.slice Ab1 b.ops.length cb1), .int .i64 b.fin, .int .i64 b.x, .int .i64 b.y, .int .i64 b.k] 25))).heap.size := by simp
  have hq0 := hide (show ((w.alloc (Obj.cells #[.int .i64 b.pc, .int .i64 b.len, (.slice Ab1 b.ops.length cb1), .int .i64 b.fin, .int .i64 b.x, .int .i64 b.y, .int .i64 b.k] 25))).heap.size = w.heap.size + 1 by simp)
  have hBb_0 : Bx (w.alloc (Obj.cells #[.int .i64 b.pc, .int .i64 b.len, (.slice Ab1 b.ops.length cb1), .int .i64 b.fin, .int .i64 b.x, .int .i64 b.y, .int .i64 b.k] 25)) (w.heap.size) [.int .i64 b.pc, .int .i64 b.len, (.slice Ab1 b.ops.length cb1), .int .i64 b.fin, .int .i64 b.x, .int .i64 b.y, .int .i64 b.k] := (by have := (Bx.new w #[.int .i64 b.pc, .int .i64 b.len, (.slice Ab1 b.ops.length cb1), .int .i64 b.fin, .int .i64 b.x, .int .i64 b.y, .int .i64 b.k] 25); simpa using this)
  have hFb_0 : ∀ oo, ((w.alloc (Obj.cells #[.int .i64 b.pc, .int .i64 b.len, (.slice Ab1 b.ops.length cb1), .int .i64 b.fin, .int .i64 b.x, .int .i64 b.y, .int .i64 b.k] 25))).frozen? ⟨w.heap.size, oo, none⟩ = false := fun oo => by simp
  generalize (w.alloc (Obj.cells #[.int .i64 b.pc, .int .i64 b.len, (.slice Ab1 b.ops.length cb1), .int .i64 b.fin, .int .i64 b.x, .int .i64 b.y, .int .i64 b.k] 25)) = w0 at *
  refine (implIrOk_any b _ _ (hb1.ext he0) hkb).mono ?_
  rintro e w1 ⟨rfl, hy⟩
  have hx1 : Ext w0 w1 := Ext.trans (Ext.auto) hy
  have hs1 := hx1.size
  have he1 : Ext w w1 := he0.trans hx1
  have hBb_1 : Bx w1 (w.heap.size) [.int .i64 b.pc, .int .i64 b.len, (.slice Ab1 b.ops.length cb1), .int .i64 b.fin, .int .i64 b.x, .int .i64 b.y, .int .i64 b.k] := hx1.bx hBb_0 (by omega)
  have hFb_1 : ∀ oo, w1.frozen? ⟨w.heap.size, oo, none⟩ = false := fun oo => (hx1.frozen (by omega)).trans (hFb_0 oo)
  clear hBb_0 hFb_0
  clear hy
  cases hok : irOkB b
  · 
    have HNO := hide (show irBytes b = [] by unfold irBytes; rw [hok]; rfl)
    clear hok
    go_wp2
    go_ret
    exact ⟨_, [], rfl, by rw [HNO.out]; exact OwnSl.nil _, Fr.nil _ _, (Ext.hold he1)⟩
  have HOK := hide hok
  clear hok
  have hn48 := ok_n HOK.out
  unfold maxLen at hmb1
  have yb : w.heap.size < w1.heap.size := by omega
  have xb0 := hBb_1 0 _ rfl
  have xb1 := hBb_1 1 _ rfl
  have xb2 := hBb_1 2 _ rfl
  have xb3 := hBb_1 3 _ rfl
  have xb4 := hBb_1 4 _ rfl
  have xb5 := hBb_1 5 _ rfl
  have xb6 := hBb_1 6 _ rfl
  go_wp2_with fail
  clear xb0 xb1 xb2 xb3 xb4 xb5 xb6 yb
  have hA0 : App w1 (w1.alloc (.cells #[.int .u8 (b.pc % 256), .int .u8 (b.len % 256), .int .u8 (b.fin % 256), .int .u8 (b.x % 256), .int .u8 (b.y % 256), .int .u8 (b.k / 256 % 256), .int .u8 (b.k % 256)] 5)) 5 (.slice (some ⟨w1.heap.size, 0, none⟩) 7 7) ([b8 b.pc, b8 b.len, b8 b.fin, b8 b.x, b8 b.y, b8 (b.k / 256), b8 b.k] : List UInt8) _ _ := App.built w1 5 #[.int .u8 (b.pc % 256), .int .u8 (b.len % 256), .int .u8 (b.fin % 256), .int .u8 (b.x % 256), .int .u8 (b.y % 256), .int .u8 (b.k / 256 % 256), .int .u8 (b.k % 256)] [b8 b.pc, b8 b.len, b8 b.fin, b8 b.x, b8 b.y, b8 (b.k / 256), b8 b.k] rfl rfl (by intro i a u ha hu; (rcases i with _ | _ | _ | _ | _ | _ | _ | i) <;> simp [opBytes] at ha hu <;> (try subst ha) <;> (try subst hu) <;> first | (exact b8_rep _) | (exfalso; simp_all)) (by simp [maxLen])
  have HB := hide (show irBytes b = [b8 b.pc, b8 b.len, b8 b.fin, b8 b.x, b8 b.y, b8 (b.k / 256), b8 b.k] ++ b.ops.flatMap opBytes by unfold irBytes; rw [HOK.out]; rfl)
  have he2 : Ext w (w1.alloc (.cells #[.int .u8 (b.pc % 256), .int .u8 (b.len % 256), .int .u8 (b.fin % 256), .int .u8 (b.x % 256), .int .u8 (b.y % 256), .int .u8 (b.k / 256 % 256), .int .u8 (b.k % 256)] 5)) := (Ext.hold he1)
  have hs2 : w1.heap.size + 1 ≤ ((w1.alloc (.cells #[.int .u8 (b.pc % 256), .int .u8 (b.len % 256), .int .u8 (b.fin % 256), .int .u8 (b.x % 256), .int .u8 (b.y % 256), .int .u8 (b.k / 256 % 256), .int .u8 (b.k % 256)] 5))).heap.size := by simp
  have hq2 := hide (show ((w1.alloc (.cells #[.int .u8 (b.pc % 256), .int .u8 (b.len % 256), .int .u8 (b.fin % 256), .int .u8 (b.x % 256), .int .u8 (b.y % 256), .int .u8 (b.k / 256 % 256), .int .u8 (b.k % 256)] 5))).heap.size = w1.heap.size + 1 by simp)
  have hBb_2 : Bx ((w1.alloc (.cells #[.int .u8 (b.pc % 256), .int .u8 (b.len % 256), .int .u8 (b.fin % 256), .int .u8 (b.x % 256), .int .u8 (b.y % 256), .int .u8 (b.k / 256 % 256), .int .u8 (b.k % 256)] 5))) (w.heap.size) [.int .i64 b.pc, .int .i64 b.len, (.slice Ab1 b.ops.length cb1), .int .i64 b.fin, .int .i64 b.x, .int .i64 b.y, .int .i64 b.k] := Bx.hold hBb_1
  have hFb_2 : ∀ oo, ((w1.alloc (.cells #[.int .u8 (b.pc % 256), .int .u8 (b.len % 256), .int .u8 (b.fin % 256), .int .u8 (b.x % 256), .int .u8 (b.y % 256), .int .u8 (b.k / 256 % 256), .int .u8 (b.k % 256)] 5))).frozen? ⟨w.heap.size, oo, none⟩ = false := (fz_hold hFb_1)
  generalize (w1.alloc (.cells #[.int .u8 (b.pc % 256), .int .u8 (b.len % 256), .int .u8 (b.fin % 256), .int .u8 (b.x % 256), .int .u8 (b.y % 256), .int .u8 (b.k / 256 % 256), .int .u8 (b.k % 256)] 5)) = w2 at *
  clear hBb_1 hFb_1
  go_loopw [3, 35] (fun v i w3 => ∃ (k : Nat) (Fs : List (List Nat)) (xs : List Value), k ≤ b.ops.length ∧ i = .int .i64 (k : Int) ∧ App w1 w3 5 v ([b8 b.pc, b8 b.len, b8 b.fin, b8 b.x, b8 b.y, b8 (b.k / 256), b8 b.k] ++ (b.ops.take k).flatMap opBytes) Fs xs ∧ Ext w w3 ∧ w1.heap.size ≤ w3.heap.size) (fun _ i _ => b.ops.length - (intOf i).toNat)
  case atStart => exact ⟨0, _, _, by omega, rfl, hA0, he2, by omega⟩
  case round =>
    obtain ⟨w3, hwr⟩ : ∃ w3 : World, w3 = wr := ⟨_, rfl⟩
    subst hwr
    obtain ⟨k, Fs, xs, hk, rfl, hA, he3, hs3⟩ := hrel
    by_cases hlt : k < b.ops.length
    · 
      have z0 : (0 : Int) ≤ (k : Int) := by omega
      have z1 : (k : Int) < (b.ops.length : Int) := by omega
      obtain ⟨bb, off, rfl, hbo, hk0, e0, e1, e2, e3, e4⟩ := at_IrOp (hb1.ext he3) hlt
      have hbl : bb < w3.heap.size := hbo
      have HT := hide (show [b8 b.pc, b8 b.len, b8 b.fin, b8 b.x, b8 b.y, b8 (b.k / 256), b8 b.k] ++ (b.ops.take (k + 1)).flatMap opBytes = ([b8 b.pc, b8 b.len, b8 b.fin, b8 b.x, b8 b.y, b8 (b.k / 256), b8 b.k] ++ (b.ops.take k).flatMap opBytes) ++ opBytes b.ops[k] by rw [List.take_succ_eq_append_getElem hlt, List.flatMap_append, List.append_assoc]; simp)
      have HL := hide (show ([b8 b.pc, b8 b.len, b8 b.fin, b8 b.x, b8 b.y, b8 (b.k / 256), b8 b.k] ++ (b.ops.take k).flatMap opBytes).length = 7 + 6 * k by rw [List.length_append, flatMap_len, List.length_take, Nat.min_eq_left hk]; rfl)
      go_wp2_with (at_builtin; go_must (refine wpList_append_flat (α := UInt8) (w0 := w1) rfl _ _ 22 rfl i0 _ 1 Try.underlying22 HI0.out HZ00.out HZ10.out HZ20.out rfl (hA.call (((Ext.refl _).alloc _).alloc _)) rfl _ (opBytes b.ops[k]) _ rfl ((FRow.built _ 5 #[.int .u8 (b.ops[k].kind % 256), .int .u8 (b.ops[k].x % 256), .int .u8 (b.ops[k].y % 256), .int .u8 (b.ops[k].k / 256 % 256), .int .u8 (b.ops[k].k % 256), .int .u8 (b.ops[k].at_ % 256)] (opBytes b.ops[k]) rfl rfl (by intro i a u ha hu; (rcases i with _ | _ | _ | _ | _ | _ | _ | i) <;> simp [opBytes] at ha hu <;> (try subst ha) <;> (try subst hu) <;> first | (exact b8_rep _) | (exfalso; simp_all)) (by first | rfl | simp)).sl rfl (Nat.le_refl _) (by simp [maxLen, opBytes])) (by rw [HL.out]; show _ + 6 ≤ _; unfold maxLen; omega) (by rw [HL.out]; show (_ + 6) * 1 ≤ _; omega) ?_); intro v' w9 Fs' xs' hA9)
      go_roundw
      case rel => exact ⟨k + 1, Fs', xs', by omega, by go_num, by rw [HT.out]; exact hA9, he1.trans hA9.ext, hA9.ext.size⟩
      case measure => (simp [intOf]; try omega)
    · 
      obtain rfl : k = b.ops.length := by omega
      rw [List.take_length] at hA
      go_wp2
      go_ret
      obtain ⟨F, ho, hf⟩ := hA.done
      first
      | exact ⟨_, F, rfl, by rw [HB.out]; exact ho, hf.mk1 (by omega) (Nat.le_refl _), he3⟩
      | exact ⟨_, rfl, F, by rw [HB.out]; exact ho, hf.mk1 (by omega) (Nat.le_refl _), he3⟩

end Go.Proofs.Yteaacelfnkiboaa

namespace Go.Proofs.Yteaacelfnkiboaa
open Go.RowKit

set_option linter.unusedVariables false
set_option linter.unusedSimpArgs false
set_option maxRecDepth 100000

instance : Flat InsIns where
  pos := by decide
  flat h := ⟨h.1, h.2, rfl⟩
  one h u hu := by obtain ⟨rfl, _⟩ := h; simp at hu; rcases hu with rfl | rfl | rfl | rfl <;> rfl
theorem InsIn.ok {i : InsIns} (h : InsIn i) : i.Ok := by
  obtain ⟨⟨a1, a2⟩, ⟨b1, b2⟩, ⟨c1, c2⟩, ⟨d1, d2⟩⟩ := h
  refine ⟨?_, ?_, ?_, ?_⟩ <;> (unfold Fits; omega)
theorem infInsIns : (Try.prog.info? 114).map (fun i => (i.zero, i.size, i.bytes)) = some (some (.agg #[.int .i64 0, .int .i64 0, .int .i64 0, .int .i64 0]), 4, 32) := by kernel_rfl

end Go.Proofs.Yteaacelfnkiboaa

namespace Go.Proofs.Yteaacelfnkiboaa
open Go.RowKit
set_option linter.unusedVariables false
set_option linter.unusedSimpArgs false

theorem IrBlock.same_iff (a b : IrBlock) : a = b ↔ a.pc = b.pc ∧ a.len = b.len ∧ a.fin = b.fin ∧ a.x = b.x ∧ a.y = b.y ∧ a.k = b.k ∧ a.ops = b.ops := by
  constructor
  · rintro rfl; exact ⟨rfl, rfl, rfl, rfl, rfl, rfl, rfl⟩
  · rintro ⟨h1, h2, h3, h4, h5, h6, h7⟩
    cases a; cases b; simp_all

set_option maxHeartbeats 1000000 in
theorem neqIrOp (a b : IrOp) (w : World) : (binOp .neq 58 (.agg #[.int .i64 a.kind, .int .i64 a.x, .int .i64 a.y, .int .i64 a.k, .int .i64 a.at_]) (.agg #[.int .i64 b.kind, .int .i64 b.x, .int .i64 b.y, .int .i64 b.k, .int .i64 b.at_])).run Try.prog w = .ok (.bool (decide (a ≠ b))) w := by
  rw [run_neq_struct]
  simp only [IrOp.eq_iff, ne_eq]
  by_cases h1 : a.kind = b.kind
  rotate_left
  · simp [go_sem, h1]
  by_cases h2 : a.x = b.x
  rotate_left
  · simp [go_sem, h1, h2]
  by_cases h3 : a.y = b.y
  rotate_left
  · simp [go_sem, h1, h2, h3]
  by_cases h4 : a.k = b.k
  rotate_left
  · simp [go_sem, h1, h2, h3, h4]
  by_cases h5 : a.at_ = b.at_ <;> simp [go_sem, h1, h2, h3, h4, h5]

end Go.Proofs.Yteaacelfnkiboaa

namespace Go.Proofs.Yteaacelfnkiboaa
open Go.RowKit

set_option linter.unusedVariables false
set_option linter.unusedSimpArgs false
set_option maxRecDepth 100000

theorem b8_mod (n : Int) : b8 (n % 256) = b8 n := by unfold b8; rw [Int.emod_emod_of_dvd _ (Int.dvd_refl 256)]
theorem b8_rep2 {w : World} {S : Nat → Prop} (n : Int) : Rep.rep w S [Value.int .u8 (n % 256 % 256)] (b8 n) := by
  have := b8_rep (w := w) (S := S) (n % 256)
  rwa [b8_mod] at this

set_option maxHeartbeats 4000000 in
theorem l11Two_any (n : Int) (v : Value) (w0 w : World) (l : List UInt8) (Fs : List (List Nat)) (xs : List Value) (hA : App w0 w 5 v l Fs xs) (h0 : 0 ≤ n) (h1 : n ≤ 4294967296) (hl : l.length ≤ 1000) :
    Calls Try.prog 47 #[v, .int .i64 n] w fun e w' => ∃ v', e = .returned v' ∧ (∃ Fs' xs', App w0 w' 5 v' (l ++ [b8 (n / 256), b8 n]) Fs' xs') ∧ Near v.ownBlock w w' ∧ Moved v v' w := by
  obtain ⟨i0, hi, hz0, hz1, hz2⟩ := info_parts infbUInt8
  have HI0 := hide hi
  have HZ00 := hide hz0
  have HZ10 := hide hz1
  have HZ20 := hide hz2
  clear hi hz0 hz1 hz2
  go_enter Try.func47, Try.ntmps47
  have he0 : Ext w w := Ext.refl _
  have hs0 : w.heap.size ≤ w.heap.size := Nat.le_refl _
  have hq0 := hide (rfl : w.heap.size = w.heap.size)
  go_wp2_with (at_builtin; go_must (refine wpList_append_flat2 (α := UInt8) (w0 := w0) rfl _ _ 22 rfl i0 _ 1 Try.underlying22 HI0.out HZ00.out HZ10.out HZ20.out rfl (hA.call ((Ext.refl _).alloc _)) rfl _ [b8 (n / 256), b8 n] _ rfl ((FRow.built _ 5 #[.int .u8 (n / 256 % 256), .int .u8 (n % 256)] [b8 (n / 256), b8 n] rfl rfl (by intro i a u ha hu; (rcases i with _ | _ | i) <;> simp at ha hu <;> (try subst ha) <;> (try subst hu) <;> first | (exact b8_rep _) | (exact b8_rep2 _) | (exfalso; simp_all)) (by first | rfl | simp)).sl rfl (Nat.le_refl _) (by simp [maxLen])) (by show _ + 2 ≤ _; unfold maxLen; omega) (by show (_ + 2) * 1 ≤ _; omega) ?_); intro v' w9 Fs' xs' hA9 hg9 hb9)
  go_ret
  exact ⟨_, rfl, ⟨Fs', xs', hA9⟩, Near.trans (Near.ext (Near.refl _ _) ((Ext.refl _).alloc _)) (Near.grown hg9), hb9.imp id (fun h => ⟨_, h, by simp⟩)⟩

end Go.Proofs.Yteaacelfnkiboaa
