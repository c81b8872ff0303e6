/-
  BytesI, ReadP, IrbPure
-/
import Derived.Test.YteaacelfnkiboaaYUsedS
import Derived.Test.YteaacelfnkiboaaYOptDead
import Derived.Test.YteaacelfnkiboaaYIrOkK
import Derived.Test.YteaacelfnkiboaaYRegLib
import Derived.Test.YteaacelfnkiboaaYCertLib
import Derived.Test.YteaacelfnkiboaaYByteLib
import Derived.Test.YteaacelfnkiboaaYRoom0Lib
import Derived.Test.YteaacelfnkiboaaYConstW
import Derived.Deep.DeepCutAuto
import Derived.Laws.BytesArg
namespace Go.Proofs.Yteaacelfnkiboaa
open Go.RowKit

set_option linter.unusedVariables false
set_option linter.unusedSimpArgs false
set_option maxRecDepth 100000

theorem infbUInt8 : (Try.prog.info? 5).map (fun i => (i.zero, i.size, i.bytes)) = some (some (.int .u8 0), 1, 1) := by kernel_rfl

theorem b8_val (n : Int) : ((b8 n).toNat : Int) = n % 256 := by
  unfold b8
  have h0 := Int.emod_nonneg n (show (256 : Int) ≠ 0 by decide)
  have h1 := Int.emod_lt_of_pos n (show (0 : Int) < 256 by decide)
  have h2 : (n % 256).toNat < 256 := by omega
  rw [UInt8.toNat_ofNat_of_lt' (by simpa using h2)]
  omega
theorem b8_rep {w : World} {S : Nat → Prop} (n : Int) : Rep.rep w S [Value.int .u8 (n % 256)] (b8 n) := by
  show [Value.int .u8 (n % 256)] = [Value.int .u8 ((b8 n).toNat : Int)]
  rw [b8_val]
theorem flatMap_len : ∀ l : List IrOp, (l.flatMap opBytes).length = 6 * l.length
  | [] => rfl
  | o :: l => by rw [List.flatMap_cons, List.length_append, flatMap_len l]; simp [opBytes]; omega

set_option maxHeartbeats 16000000 in
theorem implIrBytes_any (b : IrBlock) (vb1 : Value) (w : World) (hb1 : Sl w (Old w) vb1 b.ops) (hkb : b.Ok) :
    Calls Try.prog 13 #[.agg #[.int .i64 b.pc, .int .i64 b.len, vb1, .int .i64 b.fin, .int .i64 b.x, .int .i64 b.y, .int .i64 b.k]] w fun e w' => ∃ r F, e = .returned r ∧ OwnSl w' r (irBytes b) F ∧ Fr w w' F ∧ Ext w w' := by
  obtain ⟨i0, hi, hz0, hz1, hz2⟩ := info_parts infbUInt8
  have HI0 := hide hi
  have HZ00 := hide hz0
  have HZ10 := hide hz1
  have HZ20 := hide hz2
  clear hi hz0 hz1 hz2
  obtain ⟨Ab1, cb1, rfl, hlb1, hmb1⟩ := hb1.form
  go_enter Try.func13, Try.ntmps13
  go_wp2_with fail
  have he0 : Ext w (w.alloc (Obj.cells #[.int .i64 b.pc, .int .i64 b.len, (.slice Ab1 b.ops.length cb1), .int .i64 b.fin, .int .i64 b.x, .int .i64 b.y, .int .i64 b.k] 25)) := (Ext.auto)
  have hs0 : w.heap.size + 1 ≤ ((w.alloc (Obj.cells #[.int .i64 b.pc, .int .i64 b.len, (.slice Ab1 b.ops.length cb1), .int .i64 b.fin, .int .i64 b.x, .int .i64 b.y, .int .i64 b.k] 25))).heap.size := by simp
  have hq0 := hide (show ((w.alloc (Obj.cells #[.int .i64 b.pc, .int .i64 b.len, (.slice Ab1 b.ops.length cb1), .int .i64 b.fin, .int .i64 b.x, .int .i64 b.y, .int .i64 b.k] 25))).heap.size = w.heap.size + 1 by simp)
  have hBb_0 : Bx (w.alloc (Obj.cells #[.int .i64 b.pc, .int .i64 b.len, (.slice Ab1 b.ops.length cb1), .int .i64 b.fin, .int .i64 b.x, .int .i64 b.y, .int .i64 b.k] 25)) (w.heap.size) [.int .i64 b.pc, .int .i64 b.len, (.slice Ab1 b.ops.length cb1), .int .i64 b.fin, .int .i64 b.x, .int .i64 b.y, .int .i64 b.k] := (by have := (Bx.new w #[.int .i64 b.pc, .int .i64 b.len, (.slice Ab1 b.ops.length cb1), .int .i64 b.fin, .int .i64 b.x, .int .i64 b.y, .int .i64 b.k] 25); simpa using this)
  have hFb_0 : ∀ oo, ((w.alloc (Obj.cells #[.int .i64 b.pc, .int .i64 b.len, (.slice Ab1 b.ops.length cb1), .int .i64 b.fin, .int .i64 b.x, .int .i64 b.y, .int .i64 b.k] 25))).frozen? ⟨w.heap.size, oo, none⟩ = false := fun oo => by simp
  generalize (w.alloc (Obj.cells #[.int .i64 b.pc, .int .i64 b.len, (.slice Ab1 b.ops.length cb1), .int .i64 b.fin, .int .i64 b.x, .int .i64 b.y, .int .i64 b.k] 25)) = w0 at *
  refine (implIrOk_any b _ _ (hb1.ext he0) hkb).mono ?_
  rintro e w1 ⟨rfl, hy⟩
  have hx1 : Ext w0 w1 := Ext.trans (Ext.auto) hy
  have hs1 := hx1.size
  have he1 : Ext w w1 := he0.trans hx1
  have hBb_1 : Bx w1 (w.heap.size) [.int .i64 b.pc, .int .i64 b.len, (.slice Ab1 b.ops.length cb1), .int .i64 b.fin, .int .i64 b.x, .int .i64 b.y, .int .i64 b.k] := hx1.bx hBb_0 (by omega)
  have hFb_1 : ∀ oo, w1.frozen? ⟨w.heap.size, oo, none⟩ = false := fun oo => (hx1.frozen (by omega)).trans (hFb_0 oo)
  clear hBb_0 hFb_0
  clear hy
  cases hok : irOkB b
  · 
    have HNO := hide (show irBytes b = [] by unfold irBytes; rw [hok]; rfl)
    clear hok
    go_wp2
    go_ret
    exact ⟨_, [], rfl, by rw [HNO.out]; exact OwnSl.nil _, Fr.nil _ _, (Ext.hold he1)⟩
  have HOK := hide hok
  clear hok
  have hn48 := ok_n HOK.out
  unfold maxLen at hmb1
  have yb : w.heap.size < w1.heap.size := by omega
  have xb0 := hBb_1 0 _ rfl
  have xb1 := hBb_1 1 _ rfl
  have xb2 := hBb_1 2 _ rfl
  have xb3 := hBb_1 3 _ rfl
  have xb4 := hBb_1 4 _ rfl
  have xb5 := hBb_1 5 _ rfl
  have xb6 := hBb_1 6 _ rfl
  go_wp2_with fail
  clear xb0 xb1 xb2 xb3 xb4 xb5 xb6 yb
  have hA0 : App w1 (w1.alloc (.cells #[.int .u8 (b.pc % 256), .int .u8 (b.len % 256), .int .u8 (b.fin % 256), .int .u8 (b.x % 256), .int .u8 (b.y % 256), .int .u8 (b.k / 256 % 256), .int .u8 (b.k % 256)] 5)) 5 (.slice (some ⟨w1.heap.size, 0, none⟩) 7 7) ([b8 b.pc, b8 b.len, b8 b.fin, b8 b.x, b8 b.y, b8 (b.k / 256), b8 b.k] : List UInt8) _ _ := App.built w1 5 #[.int .u8 (b.pc % 256), .int .u8 (b.len % 256), .int .u8 (b.fin % 256), .int .u8 (b.x % 256), .int .u8 (b.y % 256), .int .u8 (b.k / 256 % 256), .int .u8 (b.k % 256)] [b8 b.pc, b8 b.len, b8 b.fin, b8 b.x, b8 b.y, b8 (b.k / 256), b8 b.k] rfl rfl (by intro i a u ha hu; (rcases i with _ | _ | _ | _ | _ | _ | _ | i) <;> simp [opBytes] at ha hu <;> (try subst ha) <;> (try subst hu) <;> first | (exact b8_rep _) | (exfalso; simp_all)) (by simp [maxLen])
  have HB := hide (show irBytes b = [b8 b.pc, b8 b.len, b8 b.fin, b8 b.x, b8 b.y, b8 (b.k / 256), b8 b.k] ++ b.ops.flatMap opBytes by unfold irBytes; rw [HOK.out]; rfl)
  have he2 : Ext w (w1.alloc (.cells #[.int .u8 (b.pc % 256), .int .u8 (b.len % 256), .int .u8 (b.fin % 256), .int .u8 (b.x % 256), .int .u8 (b.y % 256), .int .u8 (b.k / 256 % 256), .int .u8 (b.k % 256)] 5)) := (Ext.hold he1)
  have hs2 : w1.heap.size + 1 ≤ ((w1.alloc (.cells #[.int .u8 (b.pc % 256), .int .u8 (b.len % 256), .int .u8 (b.fin % 256), .int .u8 (b.x % 256), .int .u8 (b.y % 256), .int .u8 (b.k / 256 % 256), .int .u8 (b.k % 256)] 5))).heap.size := by simp
  have hq2 := hide (show ((w1.alloc (.cells #[.int .u8 (b.pc % 256), .int .u8 (b.len % 256), .int .u8 (b.fin % 256), .int .u8 (b.x % 256), .int .u8 (b.y % 256), .int .u8 (b.k / 256 % 256), .int .u8 (b.k % 256)] 5))).heap.size = w1.heap.size + 1 by simp)
  have hBb_2 : Bx ((w1.alloc (.cells #[.int .u8 (b.pc % 256), .int .u8 (b.len % 256), .int .u8 (b.fin % 256), .int .u8 (b.x % 256), .int .u8 (b.y % 256), .int .u8 (b.k / 256 % 256), .int .u8 (b.k % 256)] 5))) (w.heap.size) [.int .i64 b.pc, .int .i64 b.len, (.slice Ab1 b.ops.length cb1), .int .i64 b.fin, .int .i64 b.x, .int .i64 b.y, .int .i64 b.k] := Bx.hold hBb_1
  have hFb_2 : ∀ oo, ((w1.alloc (.cells #[.int .u8 (b.pc % 256), .int .u8 (b.len % 256), .int .u8 (b.fin % 256), .int .u8 (b.x % 256), .int .u8 (b.y % 256), .int .u8 (b.k / 256 % 256), .int .u8 (b.k % 256)] 5))).frozen? ⟨w.heap.size, oo, none⟩ = false := (fz_hold hFb_1)
  generalize (w1.alloc (.cells #[.int .u8 (b.pc % 256), .int .u8 (b.len % 256), .int .u8 (b.fin % 256), .int .u8 (b.x % 256), .int .u8 (b.y % 256), .int .u8 (b.k / 256 % 256), .int .u8 (b.k % 256)] 5)) = w2 at *
  clear hBb_1 hFb_1
  go_loopw [3, 35] (fun v i w3 => ∃ (k : Nat) (Fs : List (List Nat)) (xs : List Value), k ≤ b.ops.length ∧ i = .int .i64 (k : Int) ∧ App w1 w3 5 v ([b8 b.pc, b8 b.len, b8 b.fin, b8 b.x, b8 b.y, b8 (b.k / 256), b8 b.k] ++ (b.ops.take k).flatMap opBytes) Fs xs ∧ Ext w w3 ∧ w1.heap.size ≤ w3.heap.size) (fun _ i _ => b.ops.length - (intOf i).toNat)
  case atStart => exact ⟨0, _, _, by omega, rfl, hA0, he2, by omega⟩
  case round =>
    obtain ⟨w3, hwr⟩ : ∃ w3 : World, w3 = wr := ⟨_, rfl⟩
    subst hwr
    obtain ⟨k, Fs, xs, hk, rfl, hA, he3, hs3⟩ := hrel
    by_cases hlt : k < b.ops.length
    · 
      have z0 : (0 : Int) ≤ (k : Int) := by omega
      have z1 : (k : Int) < (b.ops.length : Int) := by omega
      obtain ⟨bb, off, rfl, hbo, hk0, e0, e1, e2, e3, e4⟩ := at_IrOp (hb1.ext he3) hlt
      have hbl : bb < w3.heap.size := hbo
      have HT := hide (show [b8 b.pc, b8 b.len, b8 b.fin, b8 b.x, b8 b.y, b8 (b.k / 256), b8 b.k] ++ (b.ops.take (k + 1)).flatMap opBytes = ([b8 b.pc, b8 b.len, b8 b.fin, b8 b.x, b8 b.y, b8 (b.k / 256), b8 b.k] ++ (b.ops.take k).flatMap opBytes) ++ opBytes b.ops[k] by rw [List.take_succ_eq_append_getElem hlt, List.flatMap_append, List.append_assoc]; simp)
      have HL := hide (show ([b8 b.pc, b8 b.len, b8 b.fin, b8 b.x, b8 b.y, b8 (b.k / 256), b8 b.k] ++ (b.ops.take k).flatMap opBytes).length = 7 + 6 * k by rw [List.length_append, flatMap_len, List.length_take, Nat.min_eq_left hk]; rfl)
      go_wp2_with (at_builtin; go_must (refine wpList_append_flat (α := UInt8) (w0 := w1) rfl _ _ 22 rfl i0 _ 1 Try.underlying22 HI0.out HZ00.out HZ10.out HZ20.out rfl (hA.call (((Ext.refl _).alloc _).alloc _)) rfl _ (opBytes b.ops[k]) _ rfl ((FRow.built _ 5 #[.int .u8 (b.ops[k].kind % 256), .int .u8 (b.ops[k].x % 256), .int .u8 (b.ops[k].y % 256), .int .u8 (b.ops[k].k / 256 % 256), .int .u8 (b.ops[k].k % 256), .int .u8 (b.ops[k].at_ % 256)] (opBytes b.ops[k]) rfl rfl (by intro i a u ha hu; (rcases i with _ | _ | _ | _ | _ | _ | _ | i) <;> simp [opBytes] at ha hu <;> (try subst ha) <;> (try subst hu) <;> first | (exact b8_rep _) | (exfalso; simp_all)) (by first | rfl | simp)).sl rfl (Nat.le_refl _) (by simp [maxLen, opBytes])) (by rw [HL.out]; show _ + 6 ≤ _; unfold maxLen; omega) (by rw [HL.out]; show (_ + 6) * 1 ≤ _; omega) ?_); intro v' w9 Fs' xs' hA9)
      go_roundw
      case rel => exact ⟨k + 1, Fs', xs', by omega, by go_num, by rw [HT.out]; exact hA9, he1.trans hA9.ext, hA9.ext.size⟩
      case measure => (simp [intOf]; try omega)
    · 
      obtain rfl : k = b.ops.length := by omega
      rw [List.take_length] at hA
      go_wp2
      go_ret
      obtain ⟨F, ho, hf⟩ := hA.done
      first
      | exact ⟨_, F, rfl, by rw [HB.out]; exact ho, hf.mk1 (by omega) (Nat.le_refl _), he3⟩
      | exact ⟨_, rfl, F, by rw [HB.out]; exact ho, hf.mk1 (by omega) (Nat.le_refl _), he3⟩

end Go.Proofs.Yteaacelfnkiboaa

namespace Go.Proofs.Yteaacelfnkiboaa
open Go.RowKit

set_option linter.unusedVariables false
set_option linter.unusedSimpArgs false
set_option maxRecDepth 100000

def nB (bs : List UInt8) (i : Nat) : Int := (((bs[i]?).getD 0).toNat : Int)
def n2 (bs : List UInt8) (i : Nat) : Int := nB bs i * 256 + nB bs (i + 1)
def readOp (bs : List UInt8) (i : Nat) : IrOp := ⟨nB bs i, nB bs (i + 1), nB bs (i + 2), n2 bs (i + 3), nB bs (i + 5)⟩
/-- The operations that the bytes behind the head say, so many. -/
def readOps (bs : List UInt8) : Nat → List IrOp
  | 0 => []
  | k + 1 => readOps bs k ++ [readOp bs (7 + 6 * k)]
def readB (bs : List UInt8) : IrBlock := ⟨nB bs 0, nB bs 1, readOps bs ((bs.length - 7) / 6), nB bs 2, nB bs 3, nB bs 4, n2 bs 5⟩
def lenB (bs : List UInt8) : Bool := decide (7 ≤ bs.length) && decide ((bs.length - 7) % 6 = 0) && decide (bs.length ≤ 295)
def irReadOk (bs : List UInt8) : Bool := lenB bs && irOkB (readB bs)
def irRead (bs : List UInt8) : IrBlock := if irReadOk bs then readB bs else emptyBlock
theorem readOps_succ (bs : List UInt8) (k : Nat) : readOps bs (k + 1) = readOps bs k ++ [readOp bs (7 + 6 * k)] := rfl
theorem irRead_yes {bs : List UInt8} (h : lenB bs = true) (h2 : irOkB (readB bs) = true) : irRead bs = readB bs ∧ irReadOk bs = true := by
  have : irReadOk bs = true := by unfold irReadOk; rw [h, h2]; rfl
  exact ⟨by unfold irRead; rw [if_pos this], this⟩
theorem FApp.done {α : Type} [Flat α] {w w0 wr : World} {e : TypeId} {A : Option Addr} {n c : Nat} {l : List α} {Fs : List (List Nat)} {xs : List Value} (h : FApp w w0.heap.size wr e (.slice A n c) l Fs xs) : ∃ F, OwnSl wr (.slice A n c) l F ∧ Fr w0 wr F := by
  by_cases hl : l = []
  · subst hl
    obtain ⟨F0, hO, -⟩ := h.app.done
    obtain ⟨A', c', h1, h2, h3, h0, -, -⟩ := hO
    exact ⟨[], ⟨A', c', h1, h2, h3, h0, fun _ => rfl, fun q => absurd rfl q⟩, Fr.nil _ _⟩
  · obtain ⟨g9, cap9, hv, hc9, hm9, hl9, hR9⟩ := h.app.toRow (by cases l with | nil => exact absurd rfl hl | cons a t => simp)
    injection hv with e1 e2 e3
    subst e1 e2 e3
    exact hR9.own rfl hc9 hm9 (h.low g9 rfl)
end Go.Proofs.Yteaacelfnkiboaa

namespace Go.Proofs.Yteaacelfnkiboaa
open Go.RowKit
set_option linter.unusedVariables false
set_option linter.unusedSimpArgs false

theorem op_small {ops : List IrOp} {o : IrOp} {n size : Int} (h : opOkB ops o n size = true) (hn : n ≤ 48) (hs : size ≤ 8) : (0 ≤ o.kind ∧ o.kind < 256) ∧ (0 ≤ o.x ∧ o.x < 256) ∧ (0 ≤ o.y ∧ o.y < 256) ∧ (0 ≤ o.k ∧ o.k < 65536) ∧ (0 ≤ o.at_ ∧ o.at_ < 256) := by
  unfold opOkB valB inB wordB at h
  repeat' split at h
  all_goals
    simp at h
    try omega
theorem end_small {b : IrBlock} (h : endOkB b = true) (hn : b.ops.length ≤ 48) : (0 ≤ b.fin ∧ b.fin < 256) ∧ (0 ≤ b.x ∧ b.x < 256) ∧ (0 ≤ b.y ∧ b.y < 256) ∧ (0 ≤ b.k ∧ b.k < 65536) := by
  unfold endOkB valB wordB at h
  repeat' split at h
  all_goals
    simp at h
    try omega
theorem b8_id {n : Int} (h0 : 0 ≤ n) (h1 : n < 256) : ((b8 n).toNat : Int) = n := by rw [b8_val]; omega
theorem b8_two {n : Int} (h0 : 0 ≤ n) (h1 : n < 65536) : ((b8 (n / 256)).toNat : Int) * 256 + ((b8 n).toNat : Int) = n := by rw [b8_val, b8_val]; omega
theorem nB_of {bs : List UInt8} {i : Nat} {y : UInt8} (h : bs[i]? = some y) : nB bs i = (y.toNat : Int) := by unfold nB; rw [h]; rfl
theorem flat_at : ∀ (ops : List IrOp) (k j : Nat) (hk : k < ops.length), j < 6 → (ops.flatMap opBytes)[6 * k + j]? = (opBytes ops[k])[j]?
  | [], k, j, hk, _ => by simp at hk
  | o :: r, 0, j, _, hj => by
    rw [List.flatMap_cons, Nat.mul_zero, Nat.zero_add, List.getElem?_append_left (by simpa [opBytes] using hj)]
    rfl
  | o :: r, k + 1, j, hk, hj => by
    rw [List.flatMap_cons, List.getElem?_append_right (by simp [opBytes]; omega)]
    have : 6 * (k + 1) + j - (opBytes o).length = 6 * k + j := by simp [opBytes]; omega
    rw [this, flat_at r k j (by simpa using hk) hj]
    rfl
def headB (b : IrBlock) : List UInt8 := [b8 b.pc, b8 b.len, b8 b.fin, b8 b.x, b8 b.y, b8 (b.k / 256), b8 b.k]
theorem op_at (b : IrBlock) (k j : Nat) (hk : k < b.ops.length) (hj : j < 6) : (bytesB b)[7 + 6 * k + j]? = (opBytes b.ops[k])[j]? := by
  show (headB b ++ b.ops.flatMap opBytes)[7 + 6 * k + j]? = _
  rw [List.getElem?_append_right (by simp [headB]; omega)]
  have : 7 + 6 * k + j - (headB b).length = 6 * k + j := by simp [headB]; omega
  rw [this, flat_at b.ops k j hk hj]
theorem readOp_at {b : IrBlock} (h : irOkB b = true) (k : Nat) (hk : k < b.ops.length) : readOp (bytesB b) (7 + 6 * k) = b.ops[k] := by
  obtain ⟨h1, h2, h3, h4, h5⟩ := op_small (ok_ops h k hk) (by have := ok_n h; omega) (ok_len h).2
  have e0 := nB_of (op_at b k 0 hk (by decide))
  have e1 := nB_of (op_at b k 1 hk (by decide))
  have e2 := nB_of (op_at b k 2 hk (by decide))
  have e3 := nB_of (op_at b k 3 hk (by decide))
  have e4 := nB_of (op_at b k 4 hk (by decide))
  have e5 := nB_of (op_at b k 5 hk (by decide))
  unfold readOp n2
  rw [show 7 + 6 * k + 3 + 1 = 7 + 6 * k + 4 from rfl]
  rw [show (7 + 6 * k : Nat) = 7 + 6 * k + 0 from rfl]
  rw [e0, show 7 + 6 * k + 0 + 1 = 7 + 6 * k + 1 from rfl, e1, show 7 + 6 * k + 0 + 2 = 7 + 6 * k + 2 from rfl, e2, show 7 + 6 * k + 0 + 3 = 7 + 6 * k + 3 from rfl, e3, show 7 + 6 * k + 0 + 4 = 7 + 6 * k + 4 from rfl, e4, show 7 + 6 * k + 0 + 5 = 7 + 6 * k + 5 from rfl, e5, b8_id h1.1 h1.2, b8_id h2.1 h2.2, b8_id h3.1 h3.2, b8_two h4.1 h4.2, b8_id h5.1 h5.2]
theorem readOps_at {b : IrBlock} (h : irOkB b = true) : ∀ k, k ≤ b.ops.length → readOps (bytesB b) k = b.ops.take k
  | 0, _ => by simp [readOps]
  | k + 1, hk => by
    rw [readOps_succ, readOps_at h k (by omega), readOp_at h k (by omega), List.take_succ_eq_append_getElem (by omega)]
theorem bytesB_len (b : IrBlock) : (bytesB b).length = 7 + 6 * b.ops.length := by
  unfold bytesB
  rw [List.length_append, flatMap_len]
  simp
theorem readB_bytes {b : IrBlock} (h : irOkB b = true) : readB (bytesB b) = b := by
  obtain ⟨h1, h2, h3, h4⟩ := end_small (ok_end h) (ok_n h)
  have hp := ok_pc h
  have hl := ok_len h
  have hn : ((bytesB b).length - 7) / 6 = b.ops.length := by rw [bytesB_len]; omega
  unfold readB
  rw [hn, readOps_at h _ (Nat.le_refl _), List.take_length]
  have hd : ∀ (j : Nat) (y : UInt8), (headB b)[j]? = some y → (bytesB b)[j]? = some y := fun j y hy => by
    show (headB b ++ b.ops.flatMap opBytes)[j]? = _
    rw [List.getElem?_append_left (List.getElem?_eq_some_iff.1 hy).1]
    exact hy
  unfold n2
  rw [nB_of (hd 0 _ rfl), nB_of (hd 1 _ rfl), nB_of (hd 2 _ rfl), nB_of (hd 3 _ rfl), nB_of (hd 4 _ rfl), nB_of (hd 5 _ rfl), nB_of (hd (5 + 1) _ rfl), b8_id (by omega) (by omega), b8_id (by omega) (by omega), b8_id h1.1 h1.2, b8_id h2.1 h2.2, b8_id h3.1 h3.2, b8_two h4.1 h4.2]
theorem irRead_bytes {b : IrBlock} (h : irOkB b = true) : irRead (irBytes b) = b ∧ irReadOk (irBytes b) = true := by
  have he : irBytes b = bytesB b := by unfold irBytes; rw [if_pos h]
  have hn := ok_n h
  have hlb : lenB (bytesB b) = true := by
    unfold lenB
    rw [bytesB_len]
    simp
    omega
  have := irRead_yes hlb (by rw [readB_bytes h]; exact h)
  rw [he]
  exact ⟨this.1.trans (readB_bytes h), this.2⟩
theorem irBytes_inj {b c : IrBlock} (hb : irOkB b = true) (hc : irOkB c = true) : decide (irBytes b = irBytes c) = decide (b = c) := by
  by_cases h : b = c
  · subst h; simp
  · have : ¬ irBytes b = irBytes c := fun e => h (by rw [← (irRead_bytes hb).1, ← (irRead_bytes hc).1, e])
    simp [h, this]

end Go.Proofs.Yteaacelfnkiboaa
