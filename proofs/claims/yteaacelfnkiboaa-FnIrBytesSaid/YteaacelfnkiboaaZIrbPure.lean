/-
  IrbPure, DrawRB
-/
import Derived.Test.YteaacelfnkiboaaZReadP
import Derived.Test.YteaacelfnkiboaaZDrawTu
import Derived.Deep.DeepCutAuto
namespace Go.Proofs.Yteaacelfnkiboaa
open Go.RowKit
set_option linter.unusedVariables false
set_option linter.unusedSimpArgs false

theorem op_small {ops : List IrOp} {o : IrOp} {n size : Int} (h : opOkB ops o n size = true) (hn : n ≤ 48) (hs : size ≤ 8) : (0 ≤ o.kind ∧ o.kind < 256) ∧ (0 ≤ o.x ∧ o.x < 256) ∧ (0 ≤ o.y ∧ o.y < 256) ∧ (0 ≤ o.k ∧ o.k < 65536) ∧ (0 ≤ o.at_ ∧ o.at_ < 256) := by
  unfold opOkB valB inB wordB at h
  repeat' split at h
  all_goals
    simp at h
    try omega
theorem end_small {b : IrBlock} (h : endOkB b = true) (hn : b.ops.length ≤ 48) : (0 ≤ b.fin ∧ b.fin < 256) ∧ (0 ≤ b.x ∧ b.x < 256) ∧ (0 ≤ b.y ∧ b.y < 256) ∧ (0 ≤ b.k ∧ b.k < 65536) := by
  unfold endOkB valB wordB at h
  repeat' split at h
  all_goals
    simp at h
    try omega
theorem b8_id {n : Int} (h0 : 0 ≤ n) (h1 : n < 256) : ((b8 n).toNat : Int) = n := by rw [b8_val]; omega
theorem b8_two {n : Int} (h0 : 0 ≤ n) (h1 : n < 65536) : ((b8 (n / 256)).toNat : Int) * 256 + ((b8 n).toNat : Int) = n := by rw [b8_val, b8_val]; omega
theorem nB_of {bs : List UInt8} {i : Nat} {y : UInt8} (h : bs[i]? = some y) : nB bs i = (y.toNat : Int) := by unfold nB; rw [h]; rfl
theorem flat_at : ∀ (ops : List IrOp) (k j : Nat) (hk : k < ops.length), j < 6 → (ops.flatMap opBytes)[6 * k + j]? = (opBytes ops[k])[j]?
  | [], k, j, hk, _ => by simp at hk
  | o :: r, 0, j, _, hj => by
    rw [List.flatMap_cons, Nat.mul_zero, Nat.zero_add, List.getElem?_append_left (by simpa [opBytes] using hj)]
    rfl
  | o :: r, k + 1, j, hk, hj => by
    rw [List.flatMap_cons, List.getElem?_append_right (by simp [opBytes]; omega)]
    have : 6 * (k + 1) + j - (opBytes o).length = 6 * k + j := by simp [opBytes]; omega
    rw [this, flat_at r k j (by simpa using hk) hj]
    rfl
def headB (b : IrBlock) : List UInt8 := [b8 b.pc, b8 b.len, b8 b.fin, b8 b.x, b8 b.y, b8 (b.k / 256), b8 b.k]
theorem op_at (b : IrBlock) (k j : Nat) (hk : k < b.ops.length) (hj : j < 6) : (bytesB b)[7 + 6 * k + j]? = (opBytes b.ops[k])[j]? := by
  show (headB b ++ b.ops.flatMap opBytes)[7 + 6 * k + j]? = _
  rw [List.getElem?_append_right (by simp [headB]; omega)]
  have : 7 + 6 * k + j - (headB b).length = 6 * k + j := by simp [headB]; omega
  rw [this, flat_at b.ops k j hk hj]
theorem readOp_at {b : IrBlock} (h : irOkB b = true) (k : Nat) (hk : k < b.ops.length) : readOp (bytesB b) (7 + 6 * k) = b.ops[k] := by
  obtain ⟨h1, h2, h3, h4, h5⟩ := op_small (ok_ops h k hk) (by have := ok_n h; omega) (ok_len h).2
  have e0 := nB_of (op_at b k 0 hk (by decide))
  have e1 := nB_of (op_at b k 1 hk (by decide))
  have e2 := nB_of (op_at b k 2 hk (by decide))
  have e3 := nB_of (op_at b k 3 hk (by decide))
  have e4 := nB_of (op_at b k 4 hk (by decide))
  have e5 := nB_of (op_at b k 5 hk (by decide))
  unfold readOp n2
  rw [show 7 + 6 * k + 3 + 1 = 7 + 6 * k + 4 from rfl]
  rw [show (7 + 6 * k : Nat) = 7 + 6 * k + 0 from rfl]
  rw [e0, show 7 + 6 * k + 0 + 1 = 7 + 6 * k + 1 from rfl, e1, show 7 + 6 * k + 0 + 2 = 7 + 6 * k + 2 from rfl, e2, show 7 + 6 * k + 0 + 3 = 7 + 6 * k + 3 from rfl, e3, show 7 + 6 * k + 0 + 4 = 7 + 6 * k + 4 from rfl, e4, show 7 + 6 * k + 0 + 5 = 7 + 6 * k + 5 from rfl, e5, b8_id h1.1 h1.2, b8_id h2.1 h2.2, b8_id h3.1 h3.2, b8_two h4.1 h4.2, b8_id h5.1 h5.2]
theorem readOps_at {b : IrBlock} (h : irOkB b = true) : ∀ k, k ≤ b.ops.length → readOps (bytesB b) k = b.ops.take k
  | 0, _ => by simp [readOps]
  | k + 1, hk => by
    rw [readOps_succ, readOps_at h k (by omega), readOp_at h k (by omega), List.take_succ_eq_append_getElem (by omega)]
theorem bytesB_len (b : IrBlock) : (bytesB b).length = 7 + 6 * b.ops.length := by
  unfold bytesB
  rw [List.length_append, flatMap_len]
  simp
theorem readB_bytes {b : IrBlock} (h : irOkB b = true) : readB (bytesB b) = b := by
  obtain ⟨h1, h2, h3, h4⟩ := end_small (ok_end h) (ok_n h)
  have hp := ok_pc h
  have hl := ok_len h
  have hn : ((bytesB b).length - 7) / 6 = b.ops.length := by rw [bytesB_len]; omega
  unfold readB
  rw [hn, readOps_at h _ (Nat.le_refl _), List.take_length]
  have hd : ∀ (j : Nat) (y : UInt8), (headB b)[j]? = some y → (bytesB b)[j]? = some y := fun j y hy => by
    show (headB b ++ b.ops.flatMap opBytes)[j]? = _
    rw [List.getElem?_append_left (List.getElem?_eq_some_iff.1 hy).1]
    exact hy
  unfold n2
  rw [nB_of (hd 0 _ rfl), nB_of (hd 1 _ rfl), nB_of (hd 2 _ rfl), nB_of (hd 3 _ rfl), nB_of (hd 4 _ rfl), nB_of (hd 5 _ rfl), nB_of (hd (5 + 1) _ rfl), b8_id (by omega) (by omega), b8_id (by omega) (by omega), b8_id h1.1 h1.2, b8_id h2.1 h2.2, b8_id h3.1 h3.2, b8_two h4.1 h4.2]
theorem irRead_bytes {b : IrBlock} (h : irOkB b = true) : irRead (irBytes b) = b ∧ irReadOk (irBytes b) = true := by
  have he : irBytes b = bytesB b := by unfold irBytes; rw [if_pos h]
  have hn := ok_n h
  have hlb : lenB (bytesB b) = true := by
    unfold lenB
    rw [bytesB_len]
    simp
    omega
  have := irRead_yes hlb (by rw [readB_bytes h]; exact h)
  rw [he]
  exact ⟨this.1.trans (readB_bytes h), this.2⟩
theorem irBytes_of_read {bs : List UInt8} (h : irReadOk bs = true) : irOkB (irRead bs) = true ∧ irBytes (irRead bs) = bs := by
  have h' := h
  unfold irReadOk at h
  simp at h
  have hr := (irRead_yes h.1 h.2).1
  have := irBytes_read h.1
  rw [h.2] at this
  rw [hr]
  exact ⟨h.2, of_decide_eq_true this⟩
theorem irBytes_no {b : IrBlock} (h : irOkB b = false) : (irBytes b).length = 0 := by unfold irBytes; rw [h]; rfl
theorem ok_irRead (bs : List UInt8) : (irRead bs).Ok := by
  unfold irRead
  split
  · exact readB_ok bs
  · unfold emptyBlock IrBlock.Ok Fits; simp
end Go.Proofs.Yteaacelfnkiboaa

namespace Go.Proofs.Yteaacelfnkiboaa
open Go.RowKit

set_option linter.unusedVariables false
set_option linter.unusedSimpArgs false
set_option maxRecDepth 100000

theorem irBytes_len (b : IrBlock) : (irBytes b).length ≤ 7 + 6 * b.ops.length := by
  unfold irBytes
  split
  · unfold bytesB
    rw [List.length_append, flatMap_len]
    simp
  · simp

set_option maxHeartbeats 4000000 in
theorem drawIrBytes_any (code : List UInt8) (vcode : Value) (w : World) (hcode : Sl w (Old w) vcode code)  :
    Calls Try.prog 14 #[vcode] w fun e w' => (∃ (b : IrBlock) (A : Option Addr) (c : Nat), e = .returned (.agg #[.int .i64 b.pc, .int .i64 b.len, .slice A b.ops.length c, .int .i64 b.fin, .int .i64 b.x, .int .i64 b.y, .int .i64 b.k]) ∧ Sl w' (Old w') (.slice A b.ops.length c) b.ops ∧ b.Ok ∧ b.ops.length ≤ 49) ∧ Ext w w' := by
  obtain ⟨Acode, ccode, rfl, hlcode, hmcode⟩ := hcode.form
  go_enter Try.func14, Try.ntmps14
  go_upto_region 1 with fail
  have he0 : Ext w (w.alloc (Obj.cells #[.int .i64 0, .int .i64 0, .slice none 0 0, .int .i64 0, .int .i64 0, .int .i64 0, .int .i64 0] 25)) := (Ext.auto)
  have hs0 : w.heap.size + 1 ≤ ((w.alloc (Obj.cells #[.int .i64 0, .int .i64 0, .slice none 0 0, .int .i64 0, .int .i64 0, .int .i64 0, .int .i64 0] 25))).heap.size := by simp
  have hq0 := hide (show ((w.alloc (Obj.cells #[.int .i64 0, .int .i64 0, .slice none 0 0, .int .i64 0, .int .i64 0, .int .i64 0, .int .i64 0] 25))).heap.size = w.heap.size + 1 by simp)
  have hBres_0 : Bx (w.alloc (Obj.cells #[.int .i64 0, .int .i64 0, .slice none 0 0, .int .i64 0, .int .i64 0, .int .i64 0, .int .i64 0] 25)) (w.heap.size) [.int .i64 0, .int .i64 0, .slice none 0 0, .int .i64 0, .int .i64 0, .int .i64 0, .int .i64 0] := (by have := (Bx.new w #[.int .i64 0, .int .i64 0, .slice none 0 0, .int .i64 0, .int .i64 0, .int .i64 0, .int .i64 0] 25); simpa using this)
  have hFres_0 : ∀ oo, ((w.alloc (Obj.cells #[.int .i64 0, .int .i64 0, .slice none 0 0, .int .i64 0, .int .i64 0, .int .i64 0, .int .i64 0] 25))).frozen? ⟨w.heap.size, oo, none⟩ = false := fun oo => by simp
  generalize (w.alloc (Obj.cells #[.int .i64 0, .int .i64 0, .slice none 0 0, .int .i64 0, .int .i64 0, .int .i64 0, .int .i64 0] 25)) = w0 at *
  go_wp2_with fail
  refine (l20Open_any code _ _ (hcode.ext he0)).mono ?_
  rintro e w1 ⟨rfl, hR1, hx1⟩
  have hs1 := hx1.size
  have hs1_ := hR1.lt
  go_wp2_with fail
  refine (l21BlockOr_any w0.heap.size (w0.heap.size + 1) 0 _ hR1 (by omega) 9 (by omega) (by omega)).mono ?_
  rintro e w2 ⟨⟨b, A2, c2, rfl, hQ, hok, hl49⟩, -, hT⟩
  have hx2 : Ext w0 w2 := hT.ext hx1 (by simp)
  have hs2 := hT.size
  have hBr := hx2.bx hBres_0 (by omega)
  have yres : w.heap.size < w2.heap.size := by omega
  have fres : ∀ oo, w2.frozen? ⟨w.heap.size, oo, none⟩ = false := fun oo => (hx2.frozen (by omega)).trans (hFres_0 oo)
  have xres0 := hBr 0 _ rfl
  have xres1 := hBr 1 _ rfl
  have xres2 := hBr 2 _ rfl
  have xres3 := hBr 3 _ rfl
  have xres4 := hBr 4 _ rfl
  have xres5 := hBr 5 _ rfl
  have xres6 := hBr 6 _ rfl
  go_wp2
  refine bodyPost_ret (v := .agg #[.int .i64 b.pc, .int .i64 b.len, .slice A2 b.ops.length c2, .int .i64 b.fin, .int .i64 b.x, .int .i64 b.y, .int .i64 b.k]) (by simp [results, Try.results14, go_sem, xres0, xres1, xres2, xres3, xres4, xres5, xres6]) rfl ⟨⟨b, A2, c2, rfl, ?_, hok, hl49⟩, Ext.hold (he0.trans hx2)⟩
  exact GlO.sl (lo := w1.heap.size) (GlO.turn (F := [w.heap.size]) hQ (by repeat' (first | with_reducible exact Turn.refl _ _ | with_reducible refine Turn.set ?_ (.inl (by simp)) _ | with_reducible refine Turn.drew ?_)) (fun x hx => by simp at hx; omega))

set_option maxHeartbeats 4000000 in
theorem drawIrRead_any (code : List UInt8) (vcode : Value) (w : World) (hcode : Sl w (Old w) vcode code)  :
    Calls Try.prog 15 #[vcode] w fun e w' => (∃ (L : List UInt8) (A : Option Addr) (c : Nat), e = .returned (.slice A L.length c) ∧ Sl w' (Old w') (.slice A L.length c) L ∧ L.length ≤ 1001) ∧ Ext w w' := by
  obtain ⟨Acode, ccode, rfl, hlcode, hmcode⟩ := hcode.form
  go_enter Try.func15, Try.ntmps15
  go_wp2_with fail
  refine (l20Open_any code _ _ hcode).mono ?_
  rintro e w1 ⟨rfl, hR1, hx1⟩
  have hs1 := hx1.size
  have hs1_ := hR1.lt
  go_wp2_with fail
  refine (l21Block_any w.heap.size (w.heap.size + 1) 0 _ hR1 (by omega)).mono ?_
  rintro e w2 ⟨⟨b, A2, c2, rfl, hG, hok, hl40, -, -⟩, hR2, hT⟩
  have hx2 : Ext w w2 := hT.ext hx1 (by simp)
  have hs2 := hT.size
  clear hT hR1
  go_wp2_with fail
  refine (specIrBytes_any b _ _ hG.sl hok).mono ?_
  rintro e w3 ⟨r, F, rfl, hO, hF, hy⟩
  have hR3 := hR2.ext hy
  have hx3 := hx2.trans hy
  have hs3 := hy.size
  have hb := GlO.of_own hO hF
  have hlen := irBytes_len b
  generalize irBytes b = L at *
  obtain ⟨A3, c3, rfl, -, -⟩ := hO.sl.form
  clear hO hF hy hG hR2
  go_wp2_with fail
  refine (pick_any w.heap.size (w.heap.size + 1) _ _ hR3 (by omega) 2 (by omega) (by omega)).mono ?_
  rintro e w4 ⟨⟨v, rfl, lv, qv⟩, hR4, hy⟩
  have hb4 := hb.turn hy (fun x hx => by simp at hx; omega)
  have hx4 : Ext w w4 := hy.ext hx3 (by simp)
  have hs4 := hy.size
  clear hb hy hR3
  by_cases hv : v = 0
  · have qz : (v == 0) = true := by simp [hv]
    clear hv
    go_wp2_with fail
    refine (l21Turn_any w.heap.size (w.heap.size + 1) _ _ hR4 (by omega) L _ w2.heap.size hb4 (by omega) (by omega) (by omega)).mono ?_
    rintro e w5 ⟨⟨v5, L5, rfl, hb5, hl5⟩, -, hT⟩
    obtain ⟨A5, c5, rfl, -, -⟩ := hb5.sl.form
    go_wp2
    go_ret
    exact ⟨⟨L5, A5, c5, rfl, hb5.sl, hl5⟩, hT.ext hx4 (by simp)⟩
  · have qz : (v == 0) = false := by simp [hv]
    clear hv
    go_wp2
    go_ret
    exact ⟨⟨L, A3, c3, rfl, hb4.sl, by omega⟩, hx4⟩

end Go.Proofs.Yteaacelfnkiboaa
