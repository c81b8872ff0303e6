/-
  Fold
-/
import Derived.Test.YteaacelfnkiboaaYOptCopy
import Derived.Test.YteaacelfnkiboaaYConstW
namespace Go.Proofs.Yteaacelfnkiboaa
open Go.RowKit

set_option linter.unusedVariables false
set_option linter.unusedSimpArgs false
set_option maxRecDepth 100000

def knownB (L : List IrOp) (x : Int) : Bool := decide (0 ≤ x) && decide (x < (L.length : Int)) && (kindAt L x == 1)
def knownV (L : List IrOp) (x : Int) : Int := if knownB L x then numAt L x else 0
theorem known_in (L : List IrOp) (x : Int) (h0 : 0 ≤ x) (h1 : x < (L.length : Int)) : knownB L x = (kindAt L x == 1) := by simp [knownB, h0, h1]
theorem knownV_yes (L : List IrOp) (x : Int) (h : knownB L x = true) : knownV L x = numAt L x := by simp [knownV, h]
theorem kindAt_in (L : List IrOp) (x : Int) (h : x.toNat < L.length) : kindAt L x = L[x.toNat].kind := by simp [kindAt, List.getElem?_eq_getElem h]
theorem numAt_in (L : List IrOp) (x : Int) (h : x.toNat < L.length) : numAt L x = L[x.toNat].k := by simp [numAt, List.getElem?_eq_getElem h]
theorem ec_no (b : IrBlock) (h2 : ¬ (b.fin = 2 ∧ kindAt b.ops b.x = 1)) (h3 : ¬ (3 ≤ b.fin ∧ kindAt b.ops b.x = 1 ∧ kindAt b.ops b.y = 1)) : endConst b b.ops = b := by unfold endConst; rw [if_neg h2, if_neg h3]
theorem ec_word (b : IrBlock) (h : b.fin = 2) (hk : kindAt b.ops b.x = 1) (hy : b.y = 0) : endConst b b.ops = ⟨b.pc, b.len, b.ops, 1, 0, 0, numAt b.ops b.x⟩ := by unfold endConst; rw [if_pos ⟨h, hk⟩, hy]
theorem ec_two (b : IrBlock) (h : 3 ≤ b.fin) (hx : kindAt b.ops b.x = 1) (hy : kindAt b.ops b.y = 1) : endConst b b.ops = ⟨b.pc, b.len, b.ops, 1, 0, 0, if (b.fin = 3 ∧ numAt b.ops b.x = numAt b.ops b.y) ∨ (b.fin = 4 ∧ numAt b.ops b.x < numAt b.ops b.y) then b.k else b.pc + b.len⟩ := by unfold endConst; rw [if_neg (by omega), if_pos ⟨h, hx, hy⟩]
theorem endConst_ops (b : IrBlock) (L : List IrOp) : (endConst b L).ops = L := by unfold endConst; repeat' split
                                                                                  all_goals rfl
theorem num_wordk {b : IrBlock} (h : irOkB b = true) (k : Nat) (hk' : k ≤ b.ops.length) (x : Int) (hk : kindAt (foldTo b.ops k) x = 1) : wordB (numAt (foldTo b.ops k) x) = true := by
  unfold kindAt at hk
  unfold numAt
  cases hq : (foldTo b.ops k)[x.toNat]? with
  | none => rw [hq] at hk; simp at hk
  | some o =>
    rw [hq] at hk
    obtain ⟨hl, he⟩ := List.getElem?_eq_some_iff.1 hq
    have := foldTo_words h k hk' x.toNat hl
    rw [he] at this
    simpa using this (by simpa using hk)
theorem optConst_eq {b : IrBlock} (h : irOkB b = true) : optConst b = endConst b (foldTo b.ops b.ops.length) := by unfold optConst; rw [if_pos h]
theorem blk_optConst (b : IrBlock) : Bulk.blk (optConst b) ≤ Bulk.blk b := by
  rw [blk_ops, blk_ops]
  cases h : irOkB b with
  | true => rw [optConst_eq h, endConst_ops, foldTo_length]; exact Nat.le_refl _
  | false => rw [optConst_no h]; exact Nat.zero_le _

theorem fold_no {k : Int} {q : Bool} (h : q = (k == 1)) (hq : q = false) : k ≠ 1 := by rintro rfl; rw [hq] at h; simp at h
theorem fold_yes {k : Int} {q : Bool} (h : q = (k == 1)) (hq : q = true) : k = 1 := by rw [hq] at h; simpa using h.symm

set_option maxHeartbeats 2000000 in
theorem l10Known_any (L : List IrOp) (x : Int) (v : Value) (w : World) (h : Sl w (Old w) v L) :
    Calls Try.prog 122 #[v, .int .i64 x] w fun e w' => e = .returned (.tuple #[.int .i64 (knownV L x), .bool (knownB L x)]) ∧ w = w' := by
  obtain ⟨A, c, rfl, hl, hm⟩ := h.form
  unfold maxLen at hm
  by_cases h0 : x < 0
  · have hq : knownB L x = false := by unfold knownB; rw [decide_eq_false (by omega)]; rfl
    have HQ := hide hq
    have HV := hide (show knownV L x = 0 by simp [knownV, hq])
    clear hq
    go_enter Try.func122, Try.ntmps122
    go_wp2
    refine bodyPost_ret (v := .tuple #[.int .i64 (0), .bool false]) (by simp [results, Try.results122, go_sem]) rfl ⟨by rw [HV.out, HQ.out], rfl⟩
  · have h0' : 0 ≤ x := by omega
    by_cases h1 : (L.length : Int) ≤ x
    · have hq : knownB L x = false := by unfold knownB; rw [decide_eq_false (p := x < _) (by omega)]; simp
      have HQ := hide hq
      have HV := hide (show knownV L x = 0 by simp [knownV, hq])
      clear hq
      go_enter Try.func122, Try.ntmps122
      go_wp2
      refine bodyPost_ret (v := .tuple #[.int .i64 (0), .bool false]) (by simp [results, Try.results122, go_sem]) rfl ⟨by rw [HV.out, HQ.out], rfl⟩
    · have h1' : x < (L.length : Int) := by omega
      have hi : x.toNat < L.length := by omega
      obtain ⟨bb, off, rfl, hbo, hk0, e0, e1, e2, e3, e4⟩ := at_IrOp h hi
      have hbl : bb < w.heap.size := hbo
      by_cases hk : L[x.toNat].kind = 1
      · have hq : knownB L x = true := by rw [known_in L x h0' h1', kindAt_in L x hi, hk]; rfl
        have HQ := hide hq
        have HV := hide (show knownV L x = L[x.toNat].k by rw [knownV_yes L x hq, numAt_in L x hi])
        have qk : (L[x.toNat].kind != 1) = false := by simp [hk]
        clear hq hk
        go_enter Try.func122, Try.ntmps122
        go_wp2
        refine bodyPost_ret (v := .tuple #[.int .i64 (L[x.toNat].k), .bool true]) (by simp [results, Try.results122, go_sem]) rfl ⟨by rw [HV.out, HQ.out], rfl⟩
      · have hq : knownB L x = false := by rw [known_in L x h0' h1', kindAt_in L x hi]; simp [hk]
        have HQ := hide hq
        have HV := hide (show knownV L x = 0 by simp [knownV, hq])
        have qk : (L[x.toNat].kind != 1) = true := by simp [hk]
        clear hq hk
        go_enter Try.func122, Try.ntmps122
        go_wp2
        refine bodyPost_ret (v := .tuple #[.int .i64 (0), .bool false]) (by simp [results, Try.results122, go_sem]) rfl ⟨by rw [HV.out, HQ.out], rfl⟩

set_option maxHeartbeats 4000000 in
theorem l10Go_any (b : IrBlock) (k : Int) (vb1 : Value) (w : World) (hb1 : Sl w (Old w) vb1 b.ops)  :
    Calls Try.prog 140 #[.agg #[.int .i64 b.pc, .int .i64 b.len, vb1, .int .i64 b.fin, .int .i64 b.x, .int .i64 b.y, .int .i64 b.k], .int .i64 k] w fun e w' => e = .returned (.agg #[.int .i64 b.pc, .int .i64 b.len, vb1, .int .i64 1, .int .i64 0, .int .i64 0, .int .i64 k]) ∧ Ext w w' := by
  obtain ⟨Ab1, cb1, rfl, hlb1, hmb1⟩ := hb1.form
  go_enter Try.func140, Try.ntmps140
  go_wp2_with fail
  have he0 : Ext w ((w.alloc (Obj.cells #[.int .i64 b.pc, .int .i64 b.len, (.slice Ab1 b.ops.length cb1), .int .i64 b.fin, .int .i64 b.x, .int .i64 b.y, .int .i64 b.k] 25)).alloc (Obj.cells #[.int .i64 0, .int .i64 0, .slice none 0 0, .int .i64 0, .int .i64 0, .int .i64 0, .int .i64 0] 25)) := (Ext.auto)
  have hs0 : w.heap.size + 2 ≤ (((w.alloc (Obj.cells #[.int .i64 b.pc, .int .i64 b.len, (.slice Ab1 b.ops.length cb1), .int .i64 b.fin, .int .i64 b.x, .int .i64 b.y, .int .i64 b.k] 25)).alloc (Obj.cells #[.int .i64 0, .int .i64 0, .slice none 0 0, .int .i64 0, .int .i64 0, .int .i64 0, .int .i64 0] 25))).heap.size := by simp
  have hq0 := hide (show (((w.alloc (Obj.cells #[.int .i64 b.pc, .int .i64 b.len, (.slice Ab1 b.ops.length cb1), .int .i64 b.fin, .int .i64 b.x, .int .i64 b.y, .int .i64 b.k] 25)).alloc (Obj.cells #[.int .i64 0, .int .i64 0, .slice none 0 0, .int .i64 0, .int .i64 0, .int .i64 0, .int .i64 0] 25))).heap.size = w.heap.size + 2 by simp)
  have hBb_0 : Bx ((w.alloc (Obj.cells #[.int .i64 b.pc, .int .i64 b.len, (.slice Ab1 b.ops.length cb1), .int .i64 b.fin, .int .i64 b.x, .int .i64 b.y, .int .i64 b.k] 25)).alloc (Obj.cells #[.int .i64 0, .int .i64 0, .slice none 0 0, .int .i64 0, .int .i64 0, .int .i64 0, .int .i64 0] 25)) (w.heap.size) [.int .i64 b.pc, .int .i64 b.len, (.slice Ab1 b.ops.length cb1), .int .i64 b.fin, .int .i64 b.x, .int .i64 b.y, .int .i64 b.k] := (by have := (Bx.alloc (Bx.new w #[.int .i64 b.pc, .int .i64 b.len, (.slice Ab1 b.ops.length cb1), .int .i64 b.fin, .int .i64 b.x, .int .i64 b.y, .int .i64 b.k] 25) (by simp) #[.int .i64 0, .int .i64 0, .slice none 0 0, .int .i64 0, .int .i64 0, .int .i64 0, .int .i64 0] 25); simpa using this)
  have hFb_0 : ∀ oo, (((w.alloc (Obj.cells #[.int .i64 b.pc, .int .i64 b.len, (.slice Ab1 b.ops.length cb1), .int .i64 b.fin, .int .i64 b.x, .int .i64 b.y, .int .i64 b.k] 25)).alloc (Obj.cells #[.int .i64 0, .int .i64 0, .slice none 0 0, .int .i64 0, .int .i64 0, .int .i64 0, .int .i64 0] 25))).frozen? ⟨w.heap.size, oo, none⟩ = false := fun oo => by simp
  have hBres_0 : Bx ((w.alloc (Obj.cells #[.int .i64 b.pc, .int .i64 b.len, (.slice Ab1 b.ops.length cb1), .int .i64 b.fin, .int .i64 b.x, .int .i64 b.y, .int .i64 b.k] 25)).alloc (Obj.cells #[.int .i64 0, .int .i64 0, .slice none 0 0, .int .i64 0, .int .i64 0, .int .i64 0, .int .i64 0] 25)) (w.heap.size + 1) [.int .i64 0, .int .i64 0, .slice none 0 0, .int .i64 0, .int .i64 0, .int .i64 0, .int .i64 0] := (by have := (Bx.new (w.alloc (Obj.cells #[.int .i64 b.pc, .int .i64 b.len, (.slice Ab1 b.ops.length cb1), .int .i64 b.fin, .int .i64 b.x, .int .i64 b.y, .int .i64 b.k] 25)) #[.int .i64 0, .int .i64 0, .slice none 0 0, .int .i64 0, .int .i64 0, .int .i64 0, .int .i64 0] 25); simpa using this)
  have hFres_0 : ∀ oo, (((w.alloc (Obj.cells #[.int .i64 b.pc, .int .i64 b.len, (.slice Ab1 b.ops.length cb1), .int .i64 b.fin, .int .i64 b.x, .int .i64 b.y, .int .i64 b.k] 25)).alloc (Obj.cells #[.int .i64 0, .int .i64 0, .slice none 0 0, .int .i64 0, .int .i64 0, .int .i64 0, .int .i64 0] 25))).frozen? ⟨w.heap.size + 1, oo, none⟩ = false := fun oo => by simp
  generalize ((w.alloc (Obj.cells #[.int .i64 b.pc, .int .i64 b.len, (.slice Ab1 b.ops.length cb1), .int .i64 b.fin, .int .i64 b.x, .int .i64 b.y, .int .i64 b.k] 25)).alloc (Obj.cells #[.int .i64 0, .int .i64 0, .slice none 0 0, .int .i64 0, .int .i64 0, .int .i64 0, .int .i64 0] 25)) = w0 at *
  have yb : w.heap.size < w0.heap.size := by omega
  have xb0 := hBb_0 0 _ rfl
  have xb1 := hBb_0 1 _ rfl
  have xb2 := hBb_0 2 _ rfl
  have xb3 := hBb_0 3 _ rfl
  have xb4 := hBb_0 4 _ rfl
  have xb5 := hBb_0 5 _ rfl
  have xb6 := hBb_0 6 _ rfl
  have fb := hFb_0
  have yres : w.heap.size + 1 < w0.heap.size := by omega
  have xres0 := hBres_0 0 _ rfl
  have xres1 := hBres_0 1 _ rfl
  have xres2 := hBres_0 2 _ rfl
  have xres3 := hBres_0 3 _ rfl
  have xres4 := hBres_0 4 _ rfl
  have xres5 := hBres_0 5 _ rfl
  have xres6 := hBres_0 6 _ rfl
  have fres := hFres_0
  go_wp2
  refine bodyPost_ret (v := .agg #[.int .i64 b.pc, .int .i64 b.len, .slice Ab1 b.ops.length cb1, .int .i64 1, .int .i64 0, .int .i64 0, .int .i64 k]) (by simp [results, Try.results140, go_sem, xres0, xres1, xres2, xres3, xres4, xres5, xres6, yres]) rfl ⟨rfl, (Ext.hold he0)⟩

set_option maxHeartbeats 16000000 in
theorem l10Fold_any (b : IrBlock) (vb1 : Value) (w : World) (hb1 : Sl w (Old w) vb1 b.ops) (hfin : 1 ≤ b.fin ∧ b.fin ≤ 4) (hX : endX b.fin = true → 0 ≤ b.x ∧ b.x < b.ops.length) (hY : endY b.fin = true → 0 ≤ b.y ∧ b.y < b.ops.length) (hy2 : b.fin = 2 → b.y = 0) (hp0 : 0 ≤ b.pc) (hp1 : b.pc ≤ 64) (hl0 : 0 ≤ b.len) (hl1 : b.len ≤ 64) :
    Calls Try.prog 123 #[.agg #[.int .i64 b.pc, .int .i64 b.len, vb1, .int .i64 b.fin, .int .i64 b.x, .int .i64 b.y, .int .i64 b.k]] w fun e w' => e = .returned (.agg #[.int .i64 ((endConst b b.ops).pc), .int .i64 ((endConst b b.ops).len), vb1, .int .i64 ((endConst b b.ops).fin), .int .i64 ((endConst b b.ops).x), .int .i64 ((endConst b b.ops).y), .int .i64 ((endConst b b.ops).k)]) ∧ Ext w w' := by
  obtain ⟨Ab1, cb1, rfl, hlb1, hmb1⟩ := hb1.form
  have HC : b.fin = 1 ∨ b.fin = 2 ∨ b.fin = 3 ∨ b.fin = 4 := by omega
  clear hfin
  rcases HC with e | e | e | e
  · 
    have q2 : (b.fin == 2) = false := by rw [e]; rfl
    have q3 : (b.fin == 3) = false := by rw [e]; rfl
    have q4 : (b.fin == 4) = false := by rw [e]; rfl
    have HE := hide e
    have HY2 := hide hy2
    clear hX hY hy2 e
    go_enter Try.func123, Try.ntmps123
    go_wp2_with fail
    have he0 : Ext w ((w.alloc (Obj.cells #[.int .i64 b.pc, .int .i64 b.len, (.slice Ab1 b.ops.length cb1), .int .i64 b.fin, .int .i64 b.x, .int .i64 b.y, .int .i64 b.k] 25)).alloc (Obj.cells #[.int .i64 0, .int .i64 0, .slice none 0 0, .int .i64 0, .int .i64 0, .int .i64 0, .int .i64 0] 25)) := (Ext.auto)
    have hs0 : w.heap.size + 2 ≤ (((w.alloc (Obj.cells #[.int .i64 b.pc, .int .i64 b.len, (.slice Ab1 b.ops.length cb1), .int .i64 b.fin, .int .i64 b.x, .int .i64 b.y, .int .i64 b.k] 25)).alloc (Obj.cells #[.int .i64 0, .int .i64 0, .slice none 0 0, .int .i64 0, .int .i64 0, .int .i64 0, .int .i64 0] 25))).heap.size := by simp
    have hq0 := hide (show (((w.alloc (Obj.cells #[.int .i64 b.pc, .int .i64 b.len, (.slice Ab1 b.ops.length cb1), .int .i64 b.fin, .int .i64 b.x, .int .i64 b.y, .int .i64 b.k] 25)).alloc (Obj.cells #[.int .i64 0, .int .i64 0, .slice none 0 0, .int .i64 0, .int .i64 0, .int .i64 0, .int .i64 0] 25))).heap.size = w.heap.size + 2 by simp)
    have hBb_0 : Bx ((w.alloc (Obj.cells #[.int .i64 b.pc, .int .i64 b.len, (.slice Ab1 b.ops.length cb1), .int .i64 b.fin, .int .i64 b.x, .int .i64 b.y, .int .i64 b.k] 25)).alloc (Obj.cells #[.int .i64 0, .int .i64 0, .slice none 0 0, .int .i64 0, .int .i64 0, .int .i64 0, .int .i64 0] 25)) (w.heap.size) [.int .i64 b.pc, .int .i64 b.len, (.slice Ab1 b.ops.length cb1), .int .i64 b.fin, .int .i64 b.x, .int .i64 b.y, .int .i64 b.k] := (by have := (Bx.alloc (Bx.new w #[.int .i64 b.pc, .int .i64 b.len, (.slice Ab1 b.ops.length cb1), .int .i64 b.fin, .int .i64 b.x, .int .i64 b.y, .int .i64 b.k] 25) (by simp) #[.int .i64 0, .int .i64 0, .slice none 0 0, .int .i64 0, .int .i64 0, .int .i64 0, .int .i64 0] 25); simpa using this)
    have hFb_0 : ∀ oo, (((w.alloc (Obj.cells #[.int .i64 b.pc, .int .i64 b.len, (.slice Ab1 b.ops.length cb1), .int .i64 b.fin, .int .i64 b.x, .int .i64 b.y, .int .i64 b.k] 25)).alloc (Obj.cells #[.int .i64 0, .int .i64 0, .slice none 0 0, .int .i64 0, .int .i64 0, .int .i64 0, .int .i64 0] 25))).frozen? ⟨w.heap.size, oo, none⟩ = false := fun oo => by simp
    have hBres_0 : Bx ((w.alloc (Obj.cells #[.int .i64 b.pc, .int .i64 b.len, (.slice Ab1 b.ops.length cb1), .int .i64 b.fin, .int .i64 b.x, .int .i64 b.y, .int .i64 b.k] 25)).alloc (Obj.cells #[.int .i64 0, .int .i64 0, .slice none 0 0, .int .i64 0, .int .i64 0, .int .i64 0, .int .i64 0] 25)) (w.heap.size + 1) [.int .i64 0, .int .i64 0, .slice none 0 0, .int .i64 0, .int .i64 0, .int .i64 0, .int .i64 0] := (by have := (Bx.new (w.alloc (Obj.cells #[.int .i64 b.pc, .int .i64 b.len, (.slice Ab1 b.ops.length cb1), .int .i64 b.fin, .int .i64 b.x, .int .i64 b.y, .int .i64 b.k] 25)) #[.int .i64 0, .int .i64 0, .slice none 0 0, .int .i64 0, .int .i64 0, .int .i64 0, .int .i64 0] 25); simpa using this)
    have hFres_0 : ∀ oo, (((w.alloc (Obj.cells #[.int .i64 b.pc, .int .i64 b.len, (.slice Ab1 b.ops.length cb1), .int .i64 b.fin, .int .i64 b.x, .int .i64 b.y, .int .i64 b.k] 25)).alloc (Obj.cells #[.int .i64 0, .int .i64 0, .slice none 0 0, .int .i64 0, .int .i64 0, .int .i64 0, .int .i64 0] 25))).frozen? ⟨w.heap.size + 1, oo, none⟩ = false := fun oo => by simp
    generalize ((w.alloc (Obj.cells #[.int .i64 b.pc, .int .i64 b.len, (.slice Ab1 b.ops.length cb1), .int .i64 b.fin, .int .i64 b.x, .int .i64 b.y, .int .i64 b.k] 25)).alloc (Obj.cells #[.int .i64 0, .int .i64 0, .slice none 0 0, .int .i64 0, .int .i64 0, .int .i64 0, .int .i64 0] 25)) = w0 at *
    have hS := hb1.ext he0
    have yb : w.heap.size < w0.heap.size := by omega
    have xb0 := hBb_0 0 _ rfl
    have xb1 := hBb_0 1 _ rfl
    have xb2 := hBb_0 2 _ rfl
    have xb3 := hBb_0 3 _ rfl
    have xb4 := hBb_0 4 _ rfl
    have xb5 := hBb_0 5 _ rfl
    have xb6 := hBb_0 6 _ rfl
    go_wp2_with fail
    refine (l10Known_any b.ops b.x _ _ hS).mono ?_
    rintro e w' ⟨rfl, rfl⟩
    have HVx := hide (knownV_yes b.ops b.x)
    generalize knownV b.ops b.x = px at *
    generalize hqx : knownB b.ops b.x = qx at *
    go_wp2_with fail
    refine (l10Known_any b.ops b.y _ _ hS).mono ?_
    rintro e w' ⟨rfl, rfl⟩
    have HVy := hide (knownV_yes b.ops b.y)
    generalize knownV b.ops b.y = py at *
    generalize hqy : knownB b.ops b.y = qy at *
    have yres : w.heap.size + 1 < w0.heap.size := by omega
    have xres0 := hBres_0 0 _ rfl
    have xres1 := hBres_0 1 _ rfl
    have xres2 := hBres_0 2 _ rfl
    have xres3 := hBres_0 3 _ rfl
    have xres4 := hBres_0 4 _ rfl
    have xres5 := hBres_0 5 _ rfl
    have xres6 := hBres_0 6 _ rfl
    have fres := hFres_0
    go_wp2
    have HR : endConst b b.ops = b := by refine ec_no b (by rw [HE.out]; simp) (by rw [HE.out]; simp)
    refine bodyPost_ret (v := .agg #[.int .i64 b.pc, .int .i64 b.len, .slice Ab1 b.ops.length cb1, .int .i64 b.fin, .int .i64 b.x, .int .i64 b.y, .int .i64 b.k]) (by simp [results, Try.results123, go_sem, xres0, xres1, xres2, xres3, xres4, xres5, xres6, yres]) rfl ⟨by rw [HR], (Ext.hold he0)⟩
  · 
    have q2 : (b.fin == 2) = true := by rw [e]; rfl
    have q3 : (b.fin == 3) = false := by rw [e]; rfl
    have q4 : (b.fin == 4) = false := by rw [e]; rfl
    have hx := hX (by rw [e]; rfl)
    have KX := hide (known_in b.ops b.x hx.1 hx.2)
    clear hx
    have HE := hide e
    have HY2 := hide hy2
    clear hX hY hy2 e
    go_enter Try.func123, Try.ntmps123
    go_wp2_with fail
    have he0 : Ext w ((w.alloc (Obj.cells #[.int .i64 b.pc, .int .i64 b.len, (.slice Ab1 b.ops.length cb1), .int .i64 b.fin, .int .i64 b.x, .int .i64 b.y, .int .i64 b.k] 25)).alloc (Obj.cells #[.int .i64 0, .int .i64 0, .slice none 0 0, .int .i64 0, .int .i64 0, .int .i64 0, .int .i64 0] 25)) := (Ext.auto)
    have hs0 : w.heap.size + 2 ≤ (((w.alloc (Obj.cells #[.int .i64 b.pc, .int .i64 b.len, (.slice Ab1 b.ops.length cb1), .int .i64 b.fin, .int .i64 b.x, .int .i64 b.y, .int .i64 b.k] 25)).alloc (Obj.cells #[.int .i64 0, .int .i64 0, .slice none 0 0, .int .i64 0, .int .i64 0, .int .i64 0, .int .i64 0] 25))).heap.size := by simp
    have hq0 := hide (show (((w.alloc (Obj.cells #[.int .i64 b.pc, .int .i64 b.len, (.slice Ab1 b.ops.length cb1), .int .i64 b.fin, .int .i64 b.x, .int .i64 b.y, .int .i64 b.k] 25)).alloc (Obj.cells #[.int .i64 0, .int .i64 0, .slice none 0 0, .int .i64 0, .int .i64 0, .int .i64 0, .int .i64 0] 25))).heap.size = w.heap.size + 2 by simp)
    have hBb_0 : Bx ((w.alloc (Obj.cells #[.int .i64 b.pc, .int .i64 b.len, (.slice Ab1 b.ops.length cb1), .int .i64 b.fin, .int .i64 b.x, .int .i64 b.y, .int .i64 b.k] 25)).alloc (Obj.cells #[.int .i64 0, .int .i64 0, .slice none 0 0, .int .i64 0, .int .i64 0, .int .i64 0, .int .i64 0] 25)) (w.heap.size) [.int .i64 b.pc, .int .i64 b.len, (.slice Ab1 b.ops.length cb1), .int .i64 b.fin, .int .i64 b.x, .int .i64 b.y, .int .i64 b.k] := (by have := (Bx.alloc (Bx.new w #[.int .i64 b.pc, .int .i64 b.len, (.slice Ab1 b.ops.length cb1), .int .i64 b.fin, .int .i64 b.x, .int .i64 b.y, .int .i64 b.k] 25) (by simp) #[.int .i64 0, .int .i64 0, .slice none 0 0, .int .i64 0, .int .i64 0, .int .i64 0, .int .i64 0] 25); simpa using this)
    have hFb_0 : ∀ oo, (((w.alloc (Obj.cells #[.int .i64 b.pc, .int .i64 b.len, (.slice Ab1 b.ops.length cb1), .int .i64 b.fin, .int .i64 b.x, .int .i64 b.y, .int .i64 b.k] 25)).alloc (Obj.cells #[.int .i64 0, .int .i64 0, .slice none 0 0, .int .i64 0, .int .i64 0, .int .i64 0, .int .i64 0] 25))).frozen? ⟨w.heap.size, oo, none⟩ = false := fun oo => by simp
    have hBres_0 : Bx ((w.alloc (Obj.cells #[.int .i64 b.pc, .int .i64 b.len, (.slice Ab1 b.ops.length cb1), .int .i64 b.fin, .int .i64 b.x, .int .i64 b.y, .int .i64 b.k] 25)).alloc (Obj.cells #[.int .i64 0, .int .i64 0, .slice none 0 0, .int .i64 0, .int .i64 0, .int .i64 0, .int .i64 0] 25)) (w.heap.size + 1) [.int .i64 0, .int .i64 0, .slice none 0 0, .int .i64 0, .int .i64 0, .int .i64 0, .int .i64 0] := (by have := (Bx.new (w.alloc (Obj.cells #[.int .i64 b.pc, .int .i64 b.len, (.slice Ab1 b.ops.length cb1), .int .i64 b.fin, .int .i64 b.x, .int .i64 b.y, .int .i64 b.k] 25)) #[.int .i64 0, .int .i64 0, .slice none 0 0, .int .i64 0, .int .i64 0, .int .i64 0, .int .i64 0] 25); simpa using this)
    have hFres_0 : ∀ oo, (((w.alloc (Obj.cells #[.int .i64 b.pc, .int .i64 b.len, (.slice Ab1 b.ops.length cb1), .int .i64 b.fin, .int .i64 b.x, .int .i64 b.y, .int .i64 b.k] 25)).alloc (Obj.cells #[.int .i64 0, .int .i64 0, .slice none 0 0, .int .i64 0, .int .i64 0, .int .i64 0, .int .i64 0] 25))).frozen? ⟨w.heap.size + 1, oo, none⟩ = false := fun oo => by simp
    generalize ((w.alloc (Obj.cells #[.int .i64 b.pc, .int .i64 b.len, (.slice Ab1 b.ops.length cb1), .int .i64 b.fin, .int .i64 b.x, .int .i64 b.y, .int .i64 b.k] 25)).alloc (Obj.cells #[.int .i64 0, .int .i64 0, .slice none 0 0, .int .i64 0, .int .i64 0, .int .i64 0, .int .i64 0] 25)) = w0 at *
    have hS := hb1.ext he0
    have yb : w.heap.size < w0.heap.size := by omega
    have xb0 := hBb_0 0 _ rfl
    have xb1 := hBb_0 1 _ rfl
    have xb2 := hBb_0 2 _ rfl
    have xb3 := hBb_0 3 _ rfl
    have xb4 := hBb_0 4 _ rfl
    have xb5 := hBb_0 5 _ rfl
    have xb6 := hBb_0 6 _ rfl
    go_wp2_with fail
    refine (l10Known_any b.ops b.x _ _ hS).mono ?_
    rintro e w' ⟨rfl, rfl⟩
    have HVx := hide (knownV_yes b.ops b.x)
    generalize knownV b.ops b.x = px at *
    generalize hqx : knownB b.ops b.x = qx at *
    go_wp2_with fail
    refine (l10Known_any b.ops b.y _ _ hS).mono ?_
    rintro e w' ⟨rfl, rfl⟩
    have HVy := hide (knownV_yes b.ops b.y)
    generalize knownV b.ops b.y = py at *
    generalize hqy : knownB b.ops b.y = qy at *
    cases qx
    · 
      have HQX := hide hqx
      clear hqx
      have yres : w.heap.size + 1 < w0.heap.size := by omega
      have xres0 := hBres_0 0 _ rfl
      have xres1 := hBres_0 1 _ rfl
      have xres2 := hBres_0 2 _ rfl
      have xres3 := hBres_0 3 _ rfl
      have xres4 := hBres_0 4 _ rfl
      have xres5 := hBres_0 5 _ rfl
      have xres6 := hBres_0 6 _ rfl
      have fres := hFres_0
      go_wp2
      have HR : endConst b b.ops = b := by exact ec_no b (fun h => fold_no KX.out rfl h.2) (by rw [HE.out]; simp)
      refine bodyPost_ret (v := .agg #[.int .i64 b.pc, .int .i64 b.len, .slice Ab1 b.ops.length cb1, .int .i64 b.fin, .int .i64 b.x, .int .i64 b.y, .int .i64 b.k]) (by simp [results, Try.results123, go_sem, xres0, xres1, xres2, xres3, xres4, xres5, xres6, yres]) rfl ⟨by rw [HR], (Ext.hold he0)⟩
    · 
      have HQX := hide hqx
      have HPX := hide (HVx.out rfl)
      clear hqx
      go_wp2_with fail
      refine (l10Go_any b _ _ _ hS).mono ?_
      rintro e w1 ⟨rfl, hy⟩
      clear xb0 xb1 xb2 xb3 xb4 xb5 xb6 yb
      have hx1 : Ext w0 w1 := Ext.trans (Ext.auto) hy
      have hs1 := hx1.size
      have he1 : Ext w w1 := he0.trans hx1
      have hBb_1 : Bx w1 (w.heap.size) [.int .i64 b.pc, .int .i64 b.len, (.slice Ab1 b.ops.length cb1), .int .i64 b.fin, .int .i64 b.x, .int .i64 b.y, .int .i64 b.k] := hx1.bx hBb_0 (by omega)
      have hFb_1 : ∀ oo, w1.frozen? ⟨w.heap.size, oo, none⟩ = false := fun oo => (hx1.frozen (by omega)).trans (hFb_0 oo)
      have hBres_1 : Bx w1 (w.heap.size + 1) [.int .i64 0, .int .i64 0, .slice none 0 0, .int .i64 0, .int .i64 0, .int .i64 0, .int .i64 0] := hx1.bx hBres_0 (by omega)
      have hFres_1 : ∀ oo, w1.frozen? ⟨w.heap.size + 1, oo, none⟩ = false := fun oo => (hx1.frozen (by omega)).trans (hFres_0 oo)
      clear hBb_0 hFb_0 hBres_0 hFres_0
      clear hy
      have yres : w.heap.size + 1 < w1.heap.size := by omega
      have xres0 := hBres_1 0 _ rfl
      have xres1 := hBres_1 1 _ rfl
      have xres2 := hBres_1 2 _ rfl
      have xres3 := hBres_1 3 _ rfl
      have xres4 := hBres_1 4 _ rfl
      have xres5 := hBres_1 5 _ rfl
      have xres6 := hBres_1 6 _ rfl
      have fres := hFres_1
      go_wp2
      have HR : endConst b b.ops = ⟨b.pc, b.len, b.ops, 1, 0, 0, px⟩ := by rw [HPX.out]; exact ec_word b HE.out (fold_yes KX.out rfl) (HY2.out HE.out)
      refine bodyPost_ret (v := .agg #[.int .i64 b.pc, .int .i64 b.len, .slice Ab1 b.ops.length cb1, .int .i64 1, .int .i64 0, .int .i64 0, .int .i64 (px)]) (by simp [results, Try.results123, go_sem, xres0, xres1, xres2, xres3, xres4, xres5, xres6, yres]) rfl ⟨by rw [HR], (Ext.hold he1)⟩
  · 
    have q2 : (b.fin == 2) = false := by rw [e]; rfl
    have q3 : (b.fin == 3) = true := by rw [e]; rfl
    have q4 : (b.fin == 4) = false := by rw [e]; rfl
    have hx := hX (by rw [e]; rfl)
    have KX := hide (known_in b.ops b.x hx.1 hx.2)
    clear hx
    have hy := hY (by rw [e]; rfl)
    have KY := hide (known_in b.ops b.y hy.1 hy.2)
    clear hy
    have HE := hide e
    have HY2 := hide hy2
    clear hX hY hy2 e
    go_enter Try.func123, Try.ntmps123
    go_wp2_with fail
    have he0 : Ext w ((w.alloc (Obj.cells #[.int .i64 b.pc, .int .i64 b.len, (.slice Ab1 b.ops.length cb1), .int .i64 b.fin, .int .i64 b.x, .int .i64 b.y, .int .i64 b.k] 25)).alloc (Obj.cells #[.int .i64 0, .int .i64 0, .slice none 0 0, .int .i64 0, .int .i64 0, .int .i64 0, .int .i64 0] 25)) := (Ext.auto)
    have hs0 : w.heap.size + 2 ≤ (((w.alloc (Obj.cells #[.int .i64 b.pc, .int .i64 b.len, (.slice Ab1 b.ops.length cb1), .int .i64 b.fin, .int .i64 b.x, .int .i64 b.y, .int .i64 b.k] 25)).alloc (Obj.cells #[.int .i64 0, .int .i64 0, .slice none 0 0, .int .i64 0, .int .i64 0, .int .i64 0, .int .i64 0] 25))).heap.size := by simp
    have hq0 := hide (show (((w.alloc (Obj.cells #[.int .i64 b.pc, .int .i64 b.len, (.slice Ab1 b.ops.length cb1), .int .i64 b.fin, .int .i64 b.x, .int .i64 b.y, .int .i64 b.k] 25)).alloc (Obj.cells #[.int .i64 0, .int .i64 0, .slice none 0 0, .int .i64 0, .int .i64 0, .int .i64 0, .int .i64 0] 25))).heap.size = w.heap.size + 2 by simp)
    have hBb_0 : Bx ((w.alloc (Obj.cells #[.int .i64 b.pc, .int .i64 b.len, (.slice Ab1 b.ops.length cb1), .int .i64 b.fin, .int .i64 b.x, .int .i64 b.y, .int .i64 b.k] 25)).alloc (Obj.cells #[.int .i64 0, .int .i64 0, .slice none 0 0, .int .i64 0, .int .i64 0, .int .i64 0, .int .i64 0] 25)) (w.heap.size) [.int .i64 b.pc, .int .i64 b.len, (.slice Ab1 b.ops.length cb1), .int .i64 b.fin, .int .i64 b.x, .int .i64 b.y, .int .i64 b.k] := (by have := (Bx.alloc (Bx.new w #[.int .i64 b.pc, .int .i64 b.len, (.slice Ab1 b.ops.length cb1), .int .i64 b.fin, .int .i64 b.x, .int .i64 b.y, .int .i64 b.k] 25) (by simp) #[.int .i64 0, .int .i64 0, .slice none 0 0, .int .i64 0, .int .i64 0, .int .i64 0, .int .i64 0] 25); simpa using this)
    have hFb_0 : ∀ oo, (((w.alloc (Obj.cells #[.int .i64 b.pc, .int .i64 b.len, (.slice Ab1 b.ops.length cb1), .int .i64 b.fin, .int .i64 b.x, .int .i64 b.y, .int .i64 b.k] 25)).alloc (Obj.cells #[.int .i64 0, .int .i64 0, .slice none 0 0, .int .i64 0, .int .i64 0, .int .i64 0, .int .i64 0] 25))).frozen? ⟨w.heap.size, oo, none⟩ = false := fun oo => by simp
    have hBres_0 : Bx ((w.alloc (Obj.cells #[.int .i64 b.pc, .int .i64 b.len, (.slice Ab1 b.ops.length cb1), .int .i64 b.fin, .int .i64 b.x, .int .i64 b.y, .int .i64 b.k] 25)).alloc (Obj.cells #[.int .i64 0, .int .i64 0, .slice none 0 0, .int .i64 0, .int .i64 0, .int .i64 0, .int .i64 0] 25)) (w.heap.size + 1) [.int .i64 0, .int .i64 0, .slice none 0 0, .int .i64 0, .int .i64 0, .int .i64 0, .int .i64 0] := (by have := (Bx.new (w.alloc (Obj.cells #[.int .i64 b.pc, .int .i64 b.len, (.slice Ab1 b.ops.length cb1), .int .i64 b.fin, .int .i64 b.x, .int .i64 b.y, .int .i64 b.k] 25)) #[.int .i64 0, .int .i64 0, .slice none 0 0, .int .i64 0, .int .i64 0, .int .i64 0, .int .i64 0] 25); simpa using this)
    have hFres_0 : ∀ oo, (((w.alloc (Obj.cells #[.int .i64 b.pc, .int .i64 b.len, (.slice Ab1 b.ops.length cb1), .int .i64 b.fin, .int .i64 b.x, .int .i64 b.y, .int .i64 b.k] 25)).alloc (Obj.cells #[.int .i64 0, .int .i64 0, .slice none 0 0, .int .i64 0, .int .i64 0, .int .i64 0, .int .i64 0] 25))).frozen? ⟨w.heap.size + 1, oo, none⟩ = false := fun oo => by simp
    generalize ((w.alloc (Obj.cells #[.int .i64 b.pc, .int .i64 b.len, (.slice Ab1 b.ops.length cb1), .int .i64 b.fin, .int .i64 b.x, .int .i64 b.y, .int .i64 b.k] 25)).alloc (Obj.cells #[.int .i64 0, .int .i64 0, .slice none 0 0, .int .i64 0, .int .i64 0, .int .i64 0, .int .i64 0] 25)) = w0 at *
    have hS := hb1.ext he0
    have yb : w.heap.size < w0.heap.size := by omega
    have xb0 := hBb_0 0 _ rfl
    have xb1 := hBb_0 1 _ rfl
    have xb2 := hBb_0 2 _ rfl
    have xb3 := hBb_0 3 _ rfl
    have xb4 := hBb_0 4 _ rfl
    have xb5 := hBb_0 5 _ rfl
    have xb6 := hBb_0 6 _ rfl
    go_wp2_with fail
    refine (l10Known_any b.ops b.x _ _ hS).mono ?_
    rintro e w' ⟨rfl, rfl⟩
    have HVx := hide (knownV_yes b.ops b.x)
    generalize knownV b.ops b.x = px at *
    generalize hqx : knownB b.ops b.x = qx at *
    go_wp2_with fail
    refine (l10Known_any b.ops b.y _ _ hS).mono ?_
    rintro e w' ⟨rfl, rfl⟩
    have HVy := hide (knownV_yes b.ops b.y)
    generalize knownV b.ops b.y = py at *
    generalize hqy : knownB b.ops b.y = qy at *
    cases qx
    · 
      have HQX := hide hqx
      clear hqx hqy
      have yres : w.heap.size + 1 < w0.heap.size := by omega
      have xres0 := hBres_0 0 _ rfl
      have xres1 := hBres_0 1 _ rfl
      have xres2 := hBres_0 2 _ rfl
      have xres3 := hBres_0 3 _ rfl
      have xres4 := hBres_0 4 _ rfl
      have xres5 := hBres_0 5 _ rfl
      have xres6 := hBres_0 6 _ rfl
      have fres := hFres_0
      go_wp2
      have HR : endConst b b.ops = b := by exact ec_no b (by rw [HE.out]; simp) (fun h => fold_no KX.out rfl h.2.1)
      refine bodyPost_ret (v := .agg #[.int .i64 b.pc, .int .i64 b.len, .slice Ab1 b.ops.length cb1, .int .i64 b.fin, .int .i64 b.x, .int .i64 b.y, .int .i64 b.k]) (by simp [results, Try.results123, go_sem, xres0, xres1, xres2, xres3, xres4, xres5, xres6, yres]) rfl ⟨by rw [HR], (Ext.hold he0)⟩
    · 
      cases qy
      · 
        have HQY := hide hqy
        clear hqx hqy
        have yres : w.heap.size + 1 < w0.heap.size := by omega
        have xres0 := hBres_0 0 _ rfl
        have xres1 := hBres_0 1 _ rfl
        have xres2 := hBres_0 2 _ rfl
        have xres3 := hBres_0 3 _ rfl
        have xres4 := hBres_0 4 _ rfl
        have xres5 := hBres_0 5 _ rfl
        have xres6 := hBres_0 6 _ rfl
        have fres := hFres_0
        go_wp2
        have HR : endConst b b.ops = b := by exact ec_no b (by rw [HE.out]; simp) (fun h => fold_no KY.out rfl h.2.2)
        refine bodyPost_ret (v := .agg #[.int .i64 b.pc, .int .i64 b.len, .slice Ab1 b.ops.length cb1, .int .i64 b.fin, .int .i64 b.x, .int .i64 b.y, .int .i64 b.k]) (by simp [results, Try.results123, go_sem, xres0, xres1, xres2, xres3, xres4, xres5, xres6, yres]) rfl ⟨by rw [HR], (Ext.hold he0)⟩
      · 
        have HQX := hide hqx
        have HQY := hide hqy
        have HPX := hide (HVx.out rfl)
        have HPY := hide (HVy.out rfl)
        clear hqx hqy
        by_cases hr : px = py
        · 
          have hrd : (px == py) = true := by simp [hr]
          have HR0 := hide hr
          clear hr
          go_wp2_with fail
          refine (l10Go_any b _ _ _ hS).mono ?_
          rintro e w1 ⟨rfl, hy⟩
          clear xb0 xb1 xb2 xb3 xb4 xb5 xb6 yb
          have hx1 : Ext w0 w1 := Ext.trans (Ext.auto) hy
          have hs1 := hx1.size
          have he1 : Ext w w1 := he0.trans hx1
          have hBb_1 : Bx w1 (w.heap.size) [.int .i64 b.pc, .int .i64 b.len, (.slice Ab1 b.ops.length cb1), .int .i64 b.fin, .int .i64 b.x, .int .i64 b.y, .int .i64 b.k] := hx1.bx hBb_0 (by omega)
          have hFb_1 : ∀ oo, w1.frozen? ⟨w.heap.size, oo, none⟩ = false := fun oo => (hx1.frozen (by omega)).trans (hFb_0 oo)
          have hBres_1 : Bx w1 (w.heap.size + 1) [.int .i64 0, .int .i64 0, .slice none 0 0, .int .i64 0, .int .i64 0, .int .i64 0, .int .i64 0] := hx1.bx hBres_0 (by omega)
          have hFres_1 : ∀ oo, w1.frozen? ⟨w.heap.size + 1, oo, none⟩ = false := fun oo => (hx1.frozen (by omega)).trans (hFres_0 oo)
          clear hBb_0 hFb_0 hBres_0 hFres_0
          clear hy
          have yres : w.heap.size + 1 < w1.heap.size := by omega
          have xres0 := hBres_1 0 _ rfl
          have xres1 := hBres_1 1 _ rfl
          have xres2 := hBres_1 2 _ rfl
          have xres3 := hBres_1 3 _ rfl
          have xres4 := hBres_1 4 _ rfl
          have xres5 := hBres_1 5 _ rfl
          have xres6 := hBres_1 6 _ rfl
          have fres := hFres_1
          go_wp2
          have HR : endConst b b.ops = ⟨b.pc, b.len, b.ops, 1, 0, 0, b.k⟩ := by rw [ec_two b (by rw [HE.out]; decide) (fold_yes KX.out rfl) (fold_yes KY.out rfl), if_pos (by rw [← HPX.out, ← HPY.out, HE.out]; simp [HR0.out])]
          refine bodyPost_ret (v := .agg #[.int .i64 b.pc, .int .i64 b.len, .slice Ab1 b.ops.length cb1, .int .i64 1, .int .i64 0, .int .i64 0, .int .i64 (b.k)]) (by simp [results, Try.results123, go_sem, xres0, xres1, xres2, xres3, xres4, xres5, xres6, yres]) rfl ⟨by rw [HR], (Ext.hold he1)⟩
        · 
          have hrd : (px == py) = false := by simp [hr]
          have HR0 := hide hr
          clear hr
          go_wp2_with fail
          refine (l10Go_any b _ _ _ hS).mono ?_
          rintro e w1 ⟨rfl, hy⟩
          clear xb0 xb1 xb2 xb3 xb4 xb5 xb6 yb
          have hx1 : Ext w0 w1 := Ext.trans (Ext.auto) hy
          have hs1 := hx1.size
          have he1 : Ext w w1 := he0.trans hx1
          have hBb_1 : Bx w1 (w.heap.size) [.int .i64 b.pc, .int .i64 b.len, (.slice Ab1 b.ops.length cb1), .int .i64 b.fin, .int .i64 b.x, .int .i64 b.y, .int .i64 b.k] := hx1.bx hBb_0 (by omega)
          have hFb_1 : ∀ oo, w1.frozen? ⟨w.heap.size, oo, none⟩ = false := fun oo => (hx1.frozen (by omega)).trans (hFb_0 oo)
          have hBres_1 : Bx w1 (w.heap.size + 1) [.int .i64 0, .int .i64 0, .slice none 0 0, .int .i64 0, .int .i64 0, .int .i64 0, .int .i64 0] := hx1.bx hBres_0 (by omega)
          have hFres_1 : ∀ oo, w1.frozen? ⟨w.heap.size + 1, oo, none⟩ = false := fun oo => (hx1.frozen (by omega)).trans (hFres_0 oo)
          clear hBb_0 hFb_0 hBres_0 hFres_0
          clear hy
          have yres : w.heap.size + 1 < w1.heap.size := by omega
          have xres0 := hBres_1 0 _ rfl
          have xres1 := hBres_1 1 _ rfl
          have xres2 := hBres_1 2 _ rfl
          have xres3 := hBres_1 3 _ rfl
          have xres4 := hBres_1 4 _ rfl
          have xres5 := hBres_1 5 _ rfl
          have xres6 := hBres_1 6 _ rfl
          have fres := hFres_1
          go_wp2
          have HR : endConst b b.ops = ⟨b.pc, b.len, b.ops, 1, 0, 0, b.pc + b.len⟩ := by rw [ec_two b (by rw [HE.out]; decide) (fold_yes KX.out rfl) (fold_yes KY.out rfl), if_neg (by rw [← HPX.out, ← HPY.out, HE.out]; simp [HR0.out])]
          refine bodyPost_ret (v := .agg #[.int .i64 b.pc, .int .i64 b.len, .slice Ab1 b.ops.length cb1, .int .i64 1, .int .i64 0, .int .i64 0, .int .i64 (b.pc + b.len)]) (by simp [results, Try.results123, go_sem, xres0, xres1, xres2, xres3, xres4, xres5, xres6, yres]) rfl ⟨by rw [HR], (Ext.hold he1)⟩
  · 
    have q2 : (b.fin == 2) = false := by rw [e]; rfl
    have q3 : (b.fin == 3) = false := by rw [e]; rfl
    have q4 : (b.fin == 4) = true := by rw [e]; rfl
    have hx := hX (by rw [e]; rfl)
    have KX := hide (known_in b.ops b.x hx.1 hx.2)
    clear hx
    have hy := hY (by rw [e]; rfl)
    have KY := hide (known_in b.ops b.y hy.1 hy.2)
    clear hy
    have HE := hide e
    have HY2 := hide hy2
    clear hX hY hy2 e
    go_enter Try.func123, Try.ntmps123
    go_wp2_with fail
    have he0 : Ext w ((w.alloc (Obj.cells #[.int .i64 b.pc, .int .i64 b.len, (.slice Ab1 b.ops.length cb1), .int .i64 b.fin, .int .i64 b.x, .int .i64 b.y, .int .i64 b.k] 25)).alloc (Obj.cells #[.int .i64 0, .int .i64 0, .slice none 0 0, .int .i64 0, .int .i64 0, .int .i64 0, .int .i64 0] 25)) := (Ext.auto)
    have hs0 : w.heap.size + 2 ≤ (((w.alloc (Obj.cells #[.int .i64 b.pc, .int .i64 b.len, (.slice Ab1 b.ops.length cb1), .int .i64 b.fin, .int .i64 b.x, .int .i64 b.y, .int .i64 b.k] 25)).alloc (Obj.cells #[.int .i64 0, .int .i64 0, .slice none 0 0, .int .i64 0, .int .i64 0, .int .i64 0, .int .i64 0] 25))).heap.size := by simp
    have hq0 := hide (show (((w.alloc (Obj.cells #[.int .i64 b.pc, .int .i64 b.len, (.slice Ab1 b.ops.length cb1), .int .i64 b.fin, .int .i64 b.x, .int .i64 b.y, .int .i64 b.k] 25)).alloc (Obj.cells #[.int .i64 0, .int .i64 0, .slice none 0 0, .int .i64 0, .int .i64 0, .int .i64 0, .int .i64 0] 25))).heap.size = w.heap.size + 2 by simp)
    have hBb_0 : Bx ((w.alloc (Obj.cells #[.int .i64 b.pc, .int .i64 b.len, (.slice Ab1 b.ops.length cb1), .int .i64 b.fin, .int .i64 b.x, .int .i64 b.y, .int .i64 b.k] 25)).alloc (Obj.cells #[.int .i64 0, .int .i64 0, .slice none 0 0, .int .i64 0, .int .i64 0, .int .i64 0, .int .i64 0] 25)) (w.heap.size) [.int .i64 b.pc, .int .i64 b.len, (.slice Ab1 b.ops.length cb1), .int .i64 b.fin, .int .i64 b.x, .int .i64 b.y, .int .i64 b.k] := (by have := (Bx.alloc (Bx.new w #[.int .i64 b.pc, .int .i64 b.len, (.slice Ab1 b.ops.length cb1), .int .i64 b.fin, .int .i64 b.x, .int .i64 b.y, .int .i64 b.k] 25) (by simp) #[.int .i64 0, .int .i64 0, .slice none 0 0, .int .i64 0, .int .i64 0, .int .i64 0, .int .i64 0] 25); simpa using this)
    have hFb_0 : ∀ oo, (((w.alloc (Obj.cells #[.int .i64 b.pc, .int .i64 b.len, (.slice Ab1 b.ops.length cb1), .int .i64 b.fin, .int .i64 b.x, .int .i64 b.y, .int .i64 b.k] 25)).alloc (Obj.cells #[.int .i64 0, .int .i64 0, .slice none 0 0, .int .i64 0, .int .i64 0, .int .i64 0, .int .i64 0] 25))).frozen? ⟨w.heap.size, oo, none⟩ = false := fun oo => by simp
    have hBres_0 : Bx ((w.alloc (Obj.cells #[.int .i64 b.pc, .int .i64 b.len, (.slice Ab1 b.ops.length cb1), .int .i64 b.fin, .int .i64 b.x, .int .i64 b.y, .int .i64 b.k] 25)).alloc (Obj.cells #[.int .i64 0, .int .i64 0, .slice none 0 0, .int .i64 0, .int .i64 0, .int .i64 0, .int .i64 0] 25)) (w.heap.size + 1) [.int .i64 0, .int .i64 0, .slice none 0 0, .int .i64 0, .int .i64 0, .int .i64 0, .int .i64 0] := (by have := (Bx.new (w.alloc (Obj.cells #[.int .i64 b.pc, .int .i64 b.len, (.slice Ab1 b.ops.length cb1), .int .i64 b.fin, .int .i64 b.x, .int .i64 b.y, .int .i64 b.k] 25)) #[.int .i64 0, .int .i64 0, .slice none 0 0, .int .i64 0, .int .i64 0, .int .i64 0, .int .i64 0] 25); simpa using this)
    have hFres_0 : ∀ oo, (((w.alloc (Obj.cells #[.int .i64 b.pc, .int .i64 b.len, (.slice Ab1 b.ops.length cb1), .int .i64 b.fin, .int .i64 b.x, .int .i64 b.y, .int .i64 b.k] 25)).alloc (Obj.cells #[.int .i64 0, .int .i64 0, .slice none 0 0, .int .i64 0, .int .i64 0, .int .i64 0, .int .i64 0] 25))).frozen? ⟨w.heap.size + 1, oo, none⟩ = false := fun oo => by simp
    generalize ((w.alloc (Obj.cells #[.int .i64 b.pc, .int .i64 b.len, (.slice Ab1 b.ops.length cb1), .int .i64 b.fin, .int .i64 b.x, .int .i64 b.y, .int .i64 b.k] 25)).alloc (Obj.cells #[.int .i64 0, .int .i64 0, .slice none 0 0, .int .i64 0, .int .i64 0, .int .i64 0, .int .i64 0] 25)) = w0 at *
    have hS := hb1.ext he0
    have yb : w.heap.size < w0.heap.size := by omega
    have xb0 := hBb_0 0 _ rfl
    have xb1 := hBb_0 1 _ rfl
    have xb2 := hBb_0 2 _ rfl
    have xb3 := hBb_0 3 _ rfl
    have xb4 := hBb_0 4 _ rfl
    have xb5 := hBb_0 5 _ rfl
    have xb6 := hBb_0 6 _ rfl
    go_wp2_with fail
    refine (l10Known_any b.ops b.x _ _ hS).mono ?_
    rintro e w' ⟨rfl, rfl⟩
    have HVx := hide (knownV_yes b.ops b.x)
    generalize knownV b.ops b.x = px at *
    generalize hqx : knownB b.ops b.x = qx at *
    go_wp2_with fail
    refine (l10Known_any b.ops b.y _ _ hS).mono ?_
    rintro e w' ⟨rfl, rfl⟩
    have HVy := hide (knownV_yes b.ops b.y)
    generalize knownV b.ops b.y = py at *
    generalize hqy : knownB b.ops b.y = qy at *
    cases qx
    · 
      have HQX := hide hqx
      clear hqx hqy
      have yres : w.heap.size + 1 < w0.heap.size := by omega
      have xres0 := hBres_0 0 _ rfl
      have xres1 := hBres_0 1 _ rfl
      have xres2 := hBres_0 2 _ rfl
      have xres3 := hBres_0 3 _ rfl
      have xres4 := hBres_0 4 _ rfl
      have xres5 := hBres_0 5 _ rfl
      have xres6 := hBres_0 6 _ rfl
      have fres := hFres_0
      go_wp2
      have HR : endConst b b.ops = b := by exact ec_no b (by rw [HE.out]; simp) (fun h => fold_no KX.out rfl h.2.1)
      refine bodyPost_ret (v := .agg #[.int .i64 b.pc, .int .i64 b.len, .slice Ab1 b.ops.length cb1, .int .i64 b.fin, .int .i64 b.x, .int .i64 b.y, .int .i64 b.k]) (by simp [results, Try.results123, go_sem, xres0, xres1, xres2, xres3, xres4, xres5, xres6, yres]) rfl ⟨by rw [HR], (Ext.hold he0)⟩
    · 
      cases qy
      · 
        have HQY := hide hqy
        clear hqx hqy
        have yres : w.heap.size + 1 < w0.heap.size := by omega
        have xres0 := hBres_0 0 _ rfl
        have xres1 := hBres_0 1 _ rfl
        have xres2 := hBres_0 2 _ rfl
        have xres3 := hBres_0 3 _ rfl
        have xres4 := hBres_0 4 _ rfl
        have xres5 := hBres_0 5 _ rfl
        have xres6 := hBres_0 6 _ rfl
        have fres := hFres_0
        go_wp2
        have HR : endConst b b.ops = b := by exact ec_no b (by rw [HE.out]; simp) (fun h => fold_no KY.out rfl h.2.2)
        refine bodyPost_ret (v := .agg #[.int .i64 b.pc, .int .i64 b.len, .slice Ab1 b.ops.length cb1, .int .i64 b.fin, .int .i64 b.x, .int .i64 b.y, .int .i64 b.k]) (by simp [results, Try.results123, go_sem, xres0, xres1, xres2, xres3, xres4, xres5, xres6, yres]) rfl ⟨by rw [HR], (Ext.hold he0)⟩
      · 
        have HQX := hide hqx
        have HQY := hide hqy
        have HPX := hide (HVx.out rfl)
        have HPY := hide (HVy.out rfl)
        clear hqx hqy
        by_cases hr : px < py
        · 
          have hrd : decide (px < py) = true := by simp [hr]
          have HR0 := hide hr
          clear hr
          go_wp2_with fail
          refine (l10Go_any b _ _ _ hS).mono ?_
          rintro e w1 ⟨rfl, hy⟩
          clear xb0 xb1 xb2 xb3 xb4 xb5 xb6 yb
          have hx1 : Ext w0 w1 := Ext.trans (Ext.auto) hy
          have hs1 := hx1.size
          have he1 : Ext w w1 := he0.trans hx1
          have hBb_1 : Bx w1 (w.heap.size) [.int .i64 b.pc, .int .i64 b.len, (.slice Ab1 b.ops.length cb1), .int .i64 b.fin, .int .i64 b.x, .int .i64 b.y, .int .i64 b.k] := hx1.bx hBb_0 (by omega)
          have hFb_1 : ∀ oo, w1.frozen? ⟨w.heap.size, oo, none⟩ = false := fun oo => (hx1.frozen (by omega)).trans (hFb_0 oo)
          have hBres_1 : Bx w1 (w.heap.size + 1) [.int .i64 0, .int .i64 0, .slice none 0 0, .int .i64 0, .int .i64 0, .int .i64 0, .int .i64 0] := hx1.bx hBres_0 (by omega)
          have hFres_1 : ∀ oo, w1.frozen? ⟨w.heap.size + 1, oo, none⟩ = false := fun oo => (hx1.frozen (by omega)).trans (hFres_0 oo)
          clear hBb_0 hFb_0 hBres_0 hFres_0
          clear hy
          have yres : w.heap.size + 1 < w1.heap.size := by omega
          have xres0 := hBres_1 0 _ rfl
          have xres1 := hBres_1 1 _ rfl
          have xres2 := hBres_1 2 _ rfl
          have xres3 := hBres_1 3 _ rfl
          have xres4 := hBres_1 4 _ rfl
          have xres5 := hBres_1 5 _ rfl
          have xres6 := hBres_1 6 _ rfl
          have fres := hFres_1
          go_wp2
          have HR : endConst b b.ops = ⟨b.pc, b.len, b.ops, 1, 0, 0, b.k⟩ := by rw [ec_two b (by rw [HE.out]; decide) (fold_yes KX.out rfl) (fold_yes KY.out rfl), if_pos (by rw [← HPX.out, ← HPY.out, HE.out]; simp [HR0.out])]
          refine bodyPost_ret (v := .agg #[.int .i64 b.pc, .int .i64 b.len, .slice Ab1 b.ops.length cb1, .int .i64 1, .int .i64 0, .int .i64 0, .int .i64 (b.k)]) (by simp [results, Try.results123, go_sem, xres0, xres1, xres2, xres3, xres4, xres5, xres6, yres]) rfl ⟨by rw [HR], (Ext.hold he1)⟩
        · 
          have hrd : decide (px < py) = false := by exact decide_eq_false hr
          have HR0 := hide hr
          clear hr
          go_wp2_with fail
          refine (l10Go_any b _ _ _ hS).mono ?_
          rintro e w1 ⟨rfl, hy⟩
          clear xb0 xb1 xb2 xb3 xb4 xb5 xb6 yb
          have hx1 : Ext w0 w1 := Ext.trans (Ext.auto) hy
          have hs1 := hx1.size
          have he1 : Ext w w1 := he0.trans hx1
          have hBb_1 : Bx w1 (w.heap.size) [.int .i64 b.pc, .int .i64 b.len, (.slice Ab1 b.ops.length cb1), .int .i64 b.fin, .int .i64 b.x, .int .i64 b.y, .int .i64 b.k] := hx1.bx hBb_0 (by omega)
          have hFb_1 : ∀ oo, w1.frozen? ⟨w.heap.size, oo, none⟩ = false := fun oo => (hx1.frozen (by omega)).trans (hFb_0 oo)
          have hBres_1 : Bx w1 (w.heap.size + 1) [.int .i64 0, .int .i64 0, .slice none 0 0, .int .i64 0, .int .i64 0, .int .i64 0, .int .i64 0] := hx1.bx hBres_0 (by omega)
          have hFres_1 : ∀ oo, w1.frozen? ⟨w.heap.size + 1, oo, none⟩ = false := fun oo => (hx1.frozen (by omega)).trans (hFres_0 oo)
          clear hBb_0 hFb_0 hBres_0 hFres_0
          clear hy
          have yres : w.heap.size + 1 < w1.heap.size := by omega
          have xres0 := hBres_1 0 _ rfl
          have xres1 := hBres_1 1 _ rfl
          have xres2 := hBres_1 2 _ rfl
          have xres3 := hBres_1 3 _ rfl
          have xres4 := hBres_1 4 _ rfl
          have xres5 := hBres_1 5 _ rfl
          have xres6 := hBres_1 6 _ rfl
          have fres := hFres_1
          go_wp2
          have HR : endConst b b.ops = ⟨b.pc, b.len, b.ops, 1, 0, 0, b.pc + b.len⟩ := by rw [ec_two b (by rw [HE.out]; decide) (fold_yes KX.out rfl) (fold_yes KY.out rfl), if_neg (by rw [← HPX.out, ← HPY.out, HE.out]; simp [HR0.out])]
          refine bodyPost_ret (v := .agg #[.int .i64 b.pc, .int .i64 b.len, .slice Ab1 b.ops.length cb1, .int .i64 1, .int .i64 0, .int .i64 0, .int .i64 (b.pc + b.len)]) (by simp [results, Try.results123, go_sem, xres0, xres1, xres2, xres3, xres4, xres5, xres6, yres]) rfl ⟨by rw [HR], (Ext.hold he1)⟩

end Go.Proofs.Yteaacelfnkiboaa
