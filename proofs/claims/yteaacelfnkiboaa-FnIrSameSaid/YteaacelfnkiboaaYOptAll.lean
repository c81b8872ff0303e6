/-
  OptAll
-/
import Derived.Test.YteaacelfnkiboaaYOptDead
import Derived.Test.YteaacelfnkiboaaYOptSetsS
import Derived.Test.YteaacelfnkiboaaYOptCopy
import Derived.Test.YteaacelfnkiboaaYConstS
namespace Go.Proofs.Yteaacelfnkiboaa
open Go.RowKit

set_option linter.unusedVariables false
set_option linter.unusedSimpArgs false
set_option maxRecDepth 100000

theorem fits48 {x : Int} (h0 : -100 ≤ x) (h1 : x ≤ 200000) : Fits x := fits_small (by omega) (by omega)
def Bd (l : List Int) : Prop := ∀ a, a ∈ l → -1 ≤ a ∧ a ≤ 48
theorem gI_bd {l : List Int} (h : Bd l) (x : Int) : -1 ≤ gI l x ∧ gI l x ≤ 48 := by
  unfold gI
  cases hq : l[x.toNat]? with
  | none => simp
  | some a => simp; exact h a (List.mem_of_getElem? hq)
theorem bd_app {l : List Int} (h : Bd l) {a : Int} (h0 : -1 ≤ a ∧ a ≤ 48) : Bd (l ++ [a]) := by
  intro x hx
  rcases List.mem_append.1 hx with hx | hx
  · exact h x hx
  · simp at hx; subst hx; exact h0
theorem bd_set {l : List Int} (h : Bd l) (i : Nat) {a : Int} (h0 : -1 ≤ a ∧ a ≤ 48) : Bd (l.set i a) := by
  intro x hx
  rcases List.mem_or_eq_of_mem_set hx with hx | rfl
  · exact h x hx
  · exact h0
theorem bd_step {s : CpS} (o : IrOp) (hn : Bd s.names) (hl : Bd s.last) (hs : s.names.length ≤ 48) : Bd (cpStep s o).names ∧ Bd (cpStep s o).last := by
  have hk : -1 ≤ (s.names.length : Int) ∧ (s.names.length : Int) ≤ 48 := by omega
  unfold cpStep
  repeat' split
  · exact ⟨bd_app hn (gI_bd hl _), hl⟩
  · exact ⟨bd_app hn hk, bd_set hl _ hk⟩
  · exact ⟨bd_app hn hk, bd_set hl _ (gI_bd hn _)⟩
  · exact ⟨bd_app hn hk, hl⟩
theorem bd_to (ops : List IrOp) (hm : ops.length ≤ 48) : ∀ k, k ≤ ops.length → Bd (cpTo ops k).names ∧ Bd (cpTo ops k).last
  | 0, _ => ⟨by intro a ha; simp [cpTo] at ha, by intro a ha; simp [cpTo] at ha; subst ha; decide⟩
  | k + 1, hk => by
    rw [cpTo_succ ops k (by omega)]
    have h := bd_to ops hm k (by omega)
    exact bd_step _ h.1 h.2 (by rw [cpTo_names ops k (by omega)]; omega)
theorem bd_names (ops : List IrOp) (ks : List Bool) : ∀ k, k ≤ 48 → Bd (namesTo ops ks k)
  | 0, _ => by intro a ha; simp [namesTo] at ha
  | k + 1, hk => bd_app (bd_names ops ks k (by omega)) (by have := keptTo_length ops ks k; omega)
theorem ok_ren {b : IrBlock} (hb : b.Ok) {N : List Int} (hN : Bd N) (ops : List IrOp) : (renEnd N b ops).Ok := by
  obtain ⟨h1, h2, h3, h4, h5, h6⟩ := hb
  refine ⟨h1, h2, h3, ?_, ?_, h6⟩
  · show Fits (if endX b.fin then gI N b.x else b.x)
    split
    · have := gI_bd hN b.x; exact fits48 (by omega) (by omega)
    · exact h4
  · show Fits (if endY b.fin then gI N b.y else b.y)
    split
    · have := gI_bd hN b.y; exact fits48 (by omega) (by omega)
    · exact h5
theorem ok_empty : emptyBlock.Ok := ⟨fits48 (by decide) (by decide), fits48 (by decide) (by decide), fits48 (by decide) (by decide), fits48 (by decide) (by decide), fits48 (by decide) (by decide), fits48 (by decide) (by decide)⟩
theorem ok_optCopy {b : IrBlock} (hb : b.Ok) : (optCopy b).Ok := by
  unfold optCopy
  split
  · rename_i h
    exact ok_ren hb (bd_to b.ops (ok_n h) _ (Nat.le_refl _)).1 _
  · exact ok_empty
theorem ok_drop {b : IrBlock} (hb : b.Ok) (h : irOkB b = true) (ks : List Bool) : (dropB b ks).Ok := ok_ren hb (bd_names b.ops ks _ (ok_n h)) _
theorem ok_optDead {b : IrBlock} (hb : b.Ok) : (optDead b).Ok := by
  unfold optDead
  split
  · rename_i h; exact ok_drop hb h _
  · exact ok_empty
theorem ok_optSets {b : IrBlock} (hb : b.Ok) : (optSets b).Ok := by
  unfold optSets
  split
  · rename_i h; exact ok_drop hb h _
  · exact ok_empty
theorem num_bd {b : IrBlock} (h : irOkB b = true) (x : Int) (hx : kindAt (foldTo b.ops b.ops.length) x = 1) : 0 ≤ numAt (foldTo b.ops b.ops.length) x ∧ numAt (foldTo b.ops b.ops.length) x ≤ 65535 := by
  unfold kindAt at hx
  unfold numAt
  cases hq : (foldTo b.ops b.ops.length)[x.toNat]? with
  | none => rw [hq] at hx; simp at hx
  | some a =>
    rw [hq] at hx
    simp at hx ⊢
    obtain ⟨hj, rfl⟩ := List.getElem?_eq_some_iff.1 hq
    have := foldTo_words h b.ops.length (Nat.le_refl _) _ hj hx
    simp [wordB] at this
    omega
theorem ok_optConst {b : IrBlock} (hb : b.Ok) : (optConst b).Ok := by
  unfold optConst
  split
  · rename_i h
    obtain ⟨h1, h2, h3, h4, h5, h6⟩ := hb
    have z : Fits (0 : Int) := fits48 (by decide) (by decide)
    have o : Fits (1 : Int) := fits48 (by decide) (by decide)
    have hl := ok_len h
    have hp := ok_pc h
    unfold endConst
    repeat' split
    · rename_i hc
      have := num_bd h b.x hc.2
      exact ⟨h1, h2, o, z, h5, fits48 (by show -100 ≤ numAt _ _; omega) (by show numAt _ _ ≤ 200000; omega)⟩
    · exact ⟨h1, h2, o, z, z, h6⟩
    · exact ⟨h1, h2, o, z, z, fits48 (by show -100 ≤ b.pc + b.len; omega) (by show b.pc + b.len ≤ 200000; omega)⟩
    · exact ⟨h1, h2, h3, h4, h5, h6⟩
  · exact ok_empty
theorem blk_optAll (b : IrBlock) : Bulk.blk (optAll b) ≤ Bulk.blk b :=
  Nat.le_trans (blk_optDead _) (Nat.le_trans (blk_optSets _) (Nat.le_trans (blk_optDead _) (Nat.le_trans (blk_optConst _) (blk_optCopy _))))

set_option maxHeartbeats 8000000 in
theorem specOptAllR_any (b : IrBlock) (vb1 : Value) (w : World) (hb1 : Sl w (Old w) vb1 b.ops) (hkb : b.Ok) :
    Calls Try.prog 75 #[.agg #[.int .i64 b.pc, .int .i64 b.len, vb1, .int .i64 b.fin, .int .i64 b.x, .int .i64 b.y, .int .i64 b.k]] w fun e w' => ∃ r1 F, e = .returned (.agg #[.int .i64 ((optAll b).pc), .int .i64 ((optAll b).len), r1, .int .i64 ((optAll b).fin), .int .i64 ((optAll b).x), .int .i64 ((optAll b).y), .int .i64 ((optAll b).k)]) ∧ OwnSl w' r1 (optAll b).ops F ∧ Fr w w' F ∧ Ext w w' ∧ Room w.heap.size (Rep.sz IrOp) 58 w' r1 := by
  obtain ⟨Ab1, cb1, rfl, hlb1, hmb1⟩ := hb1.form
  go_enter Try.func75, Try.ntmps75
  go_wp2_with fail
  have he0 : Ext w ((w.alloc (Obj.cells #[.int .i64 b.pc, .int .i64 b.len, (.slice Ab1 b.ops.length cb1), .int .i64 b.fin, .int .i64 b.x, .int .i64 b.y, .int .i64 b.k] 25)).alloc (Obj.cells #[.int .i64 0, .int .i64 0, .slice none 0 0, .int .i64 0, .int .i64 0, .int .i64 0, .int .i64 0] 25)) := (Ext.auto)
  have hs0 : w.heap.size + 2 ≤ (((w.alloc (Obj.cells #[.int .i64 b.pc, .int .i64 b.len, (.slice Ab1 b.ops.length cb1), .int .i64 b.fin, .int .i64 b.x, .int .i64 b.y, .int .i64 b.k] 25)).alloc (Obj.cells #[.int .i64 0, .int .i64 0, .slice none 0 0, .int .i64 0, .int .i64 0, .int .i64 0, .int .i64 0] 25))).heap.size := by simp
  have hq0 := hide (show (((w.alloc (Obj.cells #[.int .i64 b.pc, .int .i64 b.len, (.slice Ab1 b.ops.length cb1), .int .i64 b.fin, .int .i64 b.x, .int .i64 b.y, .int .i64 b.k] 25)).alloc (Obj.cells #[.int .i64 0, .int .i64 0, .slice none 0 0, .int .i64 0, .int .i64 0, .int .i64 0, .int .i64 0] 25))).heap.size = w.heap.size + 2 by simp)
  have hBb_0 : Bx ((w.alloc (Obj.cells #[.int .i64 b.pc, .int .i64 b.len, (.slice Ab1 b.ops.length cb1), .int .i64 b.fin, .int .i64 b.x, .int .i64 b.y, .int .i64 b.k] 25)).alloc (Obj.cells #[.int .i64 0, .int .i64 0, .slice none 0 0, .int .i64 0, .int .i64 0, .int .i64 0, .int .i64 0] 25)) (w.heap.size) [.int .i64 b.pc, .int .i64 b.len, (.slice Ab1 b.ops.length cb1), .int .i64 b.fin, .int .i64 b.x, .int .i64 b.y, .int .i64 b.k] := (by have := (Bx.alloc (Bx.new w #[.int .i64 b.pc, .int .i64 b.len, (.slice Ab1 b.ops.length cb1), .int .i64 b.fin, .int .i64 b.x, .int .i64 b.y, .int .i64 b.k] 25) (by simp) #[.int .i64 0, .int .i64 0, .slice none 0 0, .int .i64 0, .int .i64 0, .int .i64 0, .int .i64 0] 25); simpa using this)
  have hFb_0 : ∀ oo, (((w.alloc (Obj.cells #[.int .i64 b.pc, .int .i64 b.len, (.slice Ab1 b.ops.length cb1), .int .i64 b.fin, .int .i64 b.x, .int .i64 b.y, .int .i64 b.k] 25)).alloc (Obj.cells #[.int .i64 0, .int .i64 0, .slice none 0 0, .int .i64 0, .int .i64 0, .int .i64 0, .int .i64 0] 25))).frozen? ⟨w.heap.size, oo, none⟩ = false := fun oo => by simp
  have hBres_0 : Bx ((w.alloc (Obj.cells #[.int .i64 b.pc, .int .i64 b.len, (.slice Ab1 b.ops.length cb1), .int .i64 b.fin, .int .i64 b.x, .int .i64 b.y, .int .i64 b.k] 25)).alloc (Obj.cells #[.int .i64 0, .int .i64 0, .slice none 0 0, .int .i64 0, .int .i64 0, .int .i64 0, .int .i64 0] 25)) (w.heap.size + 1) [.int .i64 0, .int .i64 0, .slice none 0 0, .int .i64 0, .int .i64 0, .int .i64 0, .int .i64 0] := (by have := (Bx.new (w.alloc (Obj.cells #[.int .i64 b.pc, .int .i64 b.len, (.slice Ab1 b.ops.length cb1), .int .i64 b.fin, .int .i64 b.x, .int .i64 b.y, .int .i64 b.k] 25)) #[.int .i64 0, .int .i64 0, .slice none 0 0, .int .i64 0, .int .i64 0, .int .i64 0, .int .i64 0] 25); simpa using this)
  have hFres_0 : ∀ oo, (((w.alloc (Obj.cells #[.int .i64 b.pc, .int .i64 b.len, (.slice Ab1 b.ops.length cb1), .int .i64 b.fin, .int .i64 b.x, .int .i64 b.y, .int .i64 b.k] 25)).alloc (Obj.cells #[.int .i64 0, .int .i64 0, .slice none 0 0, .int .i64 0, .int .i64 0, .int .i64 0, .int .i64 0] 25))).frozen? ⟨w.heap.size + 1, oo, none⟩ = false := fun oo => by simp
  generalize ((w.alloc (Obj.cells #[.int .i64 b.pc, .int .i64 b.len, (.slice Ab1 b.ops.length cb1), .int .i64 b.fin, .int .i64 b.x, .int .i64 b.y, .int .i64 b.k] 25)).alloc (Obj.cells #[.int .i64 0, .int .i64 0, .slice none 0 0, .int .i64 0, .int .i64 0, .int .i64 0, .int .i64 0] 25)) = w0 at *
  refine (specOptCopy_any b _ _ (hb1.ext he0) hkb).mono ?_
  rintro e w1 ⟨r1, F1, rfl, ho1, hf1, hy⟩
  have hx1 : Ext w0 w1 := Ext.trans (Ext.auto) hy
  have hs1 := hx1.size
  have he1 : Ext w w1 := he0.trans hx1
  have hBb_1 : Bx w1 (w.heap.size) [.int .i64 b.pc, .int .i64 b.len, (.slice Ab1 b.ops.length cb1), .int .i64 b.fin, .int .i64 b.x, .int .i64 b.y, .int .i64 b.k] := hx1.bx hBb_0 (by omega)
  have hFb_1 : ∀ oo, w1.frozen? ⟨w.heap.size, oo, none⟩ = false := fun oo => (hx1.frozen (by omega)).trans (hFb_0 oo)
  have hBres_1 : Bx w1 (w.heap.size + 1) [.int .i64 0, .int .i64 0, .slice none 0 0, .int .i64 0, .int .i64 0, .int .i64 0, .int .i64 0] := hx1.bx hBres_0 (by omega)
  have hFres_1 : ∀ oo, w1.frozen? ⟨w.heap.size + 1, oo, none⟩ = false := fun oo => (hx1.frozen (by omega)).trans (hFres_0 oo)
  clear hBb_0 hFb_0 hBres_0 hFres_0
  clear hy
  go_wp2_with fail
  refine (specOptConst_any (optCopy b) r1 _ (ho1.old hf1) (ok_optCopy hkb)).mono ?_
  rintro e w2 ⟨r2, F2, rfl, ho2, hf2, hy⟩
  have hx2 : Ext w1 w2 := Ext.trans (Ext.auto) hy
  have hs2 := hx2.size
  have he2 : Ext w w2 := he1.trans hx2
  have hBb_2 : Bx w2 (w.heap.size) [.int .i64 b.pc, .int .i64 b.len, (.slice Ab1 b.ops.length cb1), .int .i64 b.fin, .int .i64 b.x, .int .i64 b.y, .int .i64 b.k] := hx2.bx hBb_1 (by omega)
  have hFb_2 : ∀ oo, w2.frozen? ⟨w.heap.size, oo, none⟩ = false := fun oo => (hx2.frozen (by omega)).trans (hFb_1 oo)
  have hBres_2 : Bx w2 (w.heap.size + 1) [.int .i64 0, .int .i64 0, .slice none 0 0, .int .i64 0, .int .i64 0, .int .i64 0, .int .i64 0] := hx2.bx hBres_1 (by omega)
  have hFres_2 : ∀ oo, w2.frozen? ⟨w.heap.size + 1, oo, none⟩ = false := fun oo => (hx2.frozen (by omega)).trans (hFres_1 oo)
  clear hBb_1 hFb_1 hBres_1 hFres_1
  clear hy
  clear ho1 hf1
  go_wp2_with fail
  refine (specOptDead_any (optConst (optCopy b)) r2 _ (ho2.old hf2) (ok_optConst (ok_optCopy hkb))).mono ?_
  rintro e w3 ⟨r3, F3, rfl, ho3, hf3, hy⟩
  have hx3 : Ext w2 w3 := Ext.trans (Ext.auto) hy
  have hs3 := hx3.size
  have he3 : Ext w w3 := he2.trans hx3
  have hBb_3 : Bx w3 (w.heap.size) [.int .i64 b.pc, .int .i64 b.len, (.slice Ab1 b.ops.length cb1), .int .i64 b.fin, .int .i64 b.x, .int .i64 b.y, .int .i64 b.k] := hx3.bx hBb_2 (by omega)
  have hFb_3 : ∀ oo, w3.frozen? ⟨w.heap.size, oo, none⟩ = false := fun oo => (hx3.frozen (by omega)).trans (hFb_2 oo)
  have hBres_3 : Bx w3 (w.heap.size + 1) [.int .i64 0, .int .i64 0, .slice none 0 0, .int .i64 0, .int .i64 0, .int .i64 0, .int .i64 0] := hx3.bx hBres_2 (by omega)
  have hFres_3 : ∀ oo, w3.frozen? ⟨w.heap.size + 1, oo, none⟩ = false := fun oo => (hx3.frozen (by omega)).trans (hFres_2 oo)
  clear hBb_2 hFb_2 hBres_2 hFres_2
  clear hy
  clear ho2 hf2
  go_wp2_with fail
  refine (specOptSets_any (optDead (optConst (optCopy b))) r3 _ (ho3.old hf3) (ok_optDead (ok_optConst (ok_optCopy hkb)))).mono ?_
  rintro e w4 ⟨r4, F4, rfl, ho4, hf4, hy⟩
  have hx4 : Ext w3 w4 := Ext.trans (Ext.auto) hy
  have hs4 := hx4.size
  have he4 : Ext w w4 := he3.trans hx4
  have hBb_4 : Bx w4 (w.heap.size) [.int .i64 b.pc, .int .i64 b.len, (.slice Ab1 b.ops.length cb1), .int .i64 b.fin, .int .i64 b.x, .int .i64 b.y, .int .i64 b.k] := hx4.bx hBb_3 (by omega)
  have hFb_4 : ∀ oo, w4.frozen? ⟨w.heap.size, oo, none⟩ = false := fun oo => (hx4.frozen (by omega)).trans (hFb_3 oo)
  have hBres_4 : Bx w4 (w.heap.size + 1) [.int .i64 0, .int .i64 0, .slice none 0 0, .int .i64 0, .int .i64 0, .int .i64 0, .int .i64 0] := hx4.bx hBres_3 (by omega)
  have hFres_4 : ∀ oo, w4.frozen? ⟨w.heap.size + 1, oo, none⟩ = false := fun oo => (hx4.frozen (by omega)).trans (hFres_3 oo)
  clear hBb_3 hFb_3 hBres_3 hFres_3
  clear hy
  clear ho3 hf3
  go_wp2_with fail
  refine (specOptDeadR_any (optSets (optDead (optConst (optCopy b)))) r4 _ (ho4.old hf4) (ok_optSets (ok_optDead (ok_optConst (ok_optCopy hkb))))).mono ?_
  rintro e w5 ⟨r5, F5, rfl, ho5, hf5, hy, hZ⟩
  have hx5 : Ext w4 w5 := Ext.trans (Ext.auto) hy
  have hs5 := hx5.size
  have he5 : Ext w w5 := he4.trans hx5
  have hBb_5 : Bx w5 (w.heap.size) [.int .i64 b.pc, .int .i64 b.len, (.slice Ab1 b.ops.length cb1), .int .i64 b.fin, .int .i64 b.x, .int .i64 b.y, .int .i64 b.k] := hx5.bx hBb_4 (by omega)
  have hFb_5 : ∀ oo, w5.frozen? ⟨w.heap.size, oo, none⟩ = false := fun oo => (hx5.frozen (by omega)).trans (hFb_4 oo)
  have hBres_5 : Bx w5 (w.heap.size + 1) [.int .i64 0, .int .i64 0, .slice none 0 0, .int .i64 0, .int .i64 0, .int .i64 0, .int .i64 0] := hx5.bx hBres_4 (by omega)
  have hFres_5 : ∀ oo, w5.frozen? ⟨w.heap.size + 1, oo, none⟩ = false := fun oo => (hx5.frozen (by omega)).trans (hFres_4 oo)
  clear hBb_4 hFb_4 hBres_4 hFres_4
  clear hy
  clear ho4 hf4
  have HA : (optDead (optSets (optDead (optConst (optCopy b))))) = optAll b := rfl
  rw [HA] at ho5 ⊢
  clear HA
  obtain ⟨B1, d1, rfl, -, -⟩ := ho5.sl.form
  have yres : w.heap.size + 1 < w5.heap.size := by omega
  have xres0 := hBres_5 0 _ rfl
  have xres1 := hBres_5 1 _ rfl
  have xres2 := hBres_5 2 _ rfl
  have xres3 := hBres_5 3 _ rfl
  have xres4 := hBres_5 4 _ rfl
  have xres5 := hBres_5 5 _ rfl
  have xres6 := hBres_5 6 _ rfl
  have fres := hFres_5
  go_wp2
  refine bodyPost_ret (v := .agg #[.int .i64 ((optAll b).pc), .int .i64 ((optAll b).len), (.slice B1 (optAll b).ops.length d1), .int .i64 ((optAll b).fin), .int .i64 ((optAll b).x), .int .i64 ((optAll b).y), .int .i64 ((optAll b).k)]) (by simp [results, Try.results75, go_sem, xres0, xres1, xres2, xres3, xres4, xres5, xres6]) rfl ⟨_, F5, rfl, ?_, ?_, ?_, Room.hold (hZ.down (by omega))⟩
  · exact OwnSl.stay ho5 (fun b hb => by
      have q := hf5.2 b hb; have q1 := q.1; have q2 := q.2; (try simp at q1 q2)
      repeat (first | rw [heap_set _ _ _ _ (by simp; omega)] | rw [Ext.heap (Ext.refl _) (by omega)]))
  · exact hf5.mk1 (by omega) (by first | (simp; done) | (simp; omega))
  · exact (Ext.hold he5)

theorem specOptAll_any (b : IrBlock) (vb1 : Value) (w : World) (hb1 : Sl w (Old w) vb1 b.ops) (hkb : b.Ok) :
    Calls Try.prog 75 #[.agg #[.int .i64 b.pc, .int .i64 b.len, vb1, .int .i64 b.fin, .int .i64 b.x, .int .i64 b.y, .int .i64 b.k]] w fun e w' => ∃ r1 F, e = .returned (.agg #[.int .i64 ((optAll b).pc), .int .i64 ((optAll b).len), r1, .int .i64 ((optAll b).fin), .int .i64 ((optAll b).x), .int .i64 ((optAll b).y), .int .i64 ((optAll b).k)]) ∧ OwnSl w' r1 (optAll b).ops F ∧ Fr w w' F ∧ Ext w w' :=
  (specOptAllR_any b vb1 w hb1 hkb).mono fun e w' ⟨r1, F, h1, h2, h3, h4, _⟩ => ⟨r1, F, h1, h2, h3, h4⟩

end Go.Proofs.Yteaacelfnkiboaa
