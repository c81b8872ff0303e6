/-
  The law FnBlkFind holds of every input.
-/
import Derived.Test.YtokibcicoomceaaDoorDrawR
import Derived.Test.YtokibcicoomceaaDoorBlkFindI
import Derived.Test.YtokibcicoomceaaDoorBlkWI
import Derived.Test.YtokibcicoomceaaDoorBLawLib
import Derived.Deep.DeepCutAuto
namespace Go.Proofs.YtokibcicoomceaaDoor
open Go.RowKit

set_option linter.unusedVariables false
set_option linter.unusedSimpArgs false
set_option maxRecDepth 100000

def DFind (w : World) (e : Ending) (w' : World) : Prop := ∃ (m : MchMach) (A1 A2 A3 A4 : Option Addr) (c1 c2 c3 c4 : Nat), e = .returned (.agg #[(.slice A1 m.regs.length c1), .int .i64 m.pc, (.slice A2 m.mem.length c2), .int .i64 m.save, .bool m.lets, .bool m.waits, .int .i64 m.halt, (.slice A3 m.ins.length c3), (.slice A4 m.outs.length c4), .int .i64 m.count]) ∧ (m.regs.length ≤ 5 ∧ m.mem.length ≤ 64 ∧ m.ins.length ≤ 4 ∧ m.outs.length ≤ 61) ∧ Sl w' (Old w') (.slice A1 m.regs.length c1) m.regs ∧ Sl w' (Old w') (.slice A2 m.mem.length c2) m.mem ∧ Sl w' (Old w') (.slice A3 m.ins.length c3) m.ins ∧ Sl w' (Old w') (.slice A4 m.outs.length c4) m.outs ∧ Ext w w'

set_option maxHeartbeats 16000000 in
theorem drawBlkFind_any (code : List UInt8) (v : Value) (w : World) (h : Sl w (Old w) v code) : Calls Tryd.prog 42 #[v] w fun e w' => DFind w e w' := by
  obtain ⟨Ac, cc, rfl, -, -⟩ := h.form
  go_enter Tryd.func42, Tryd.ntmps42
  go_upto_region 1 with fail
  have he0 : Ext w (w.alloc (Obj.cells #[.slice none 0 0, .int .i64 0, .slice none 0 0, .int .i64 0, .bool false, .bool false, .int .i64 0, .slice none 0 0, .slice none 0 0, .int .i64 0] 51)) := (Ext.auto)
  have hs0 : w.heap.size + 1 ≤ ((w.alloc (Obj.cells #[.slice none 0 0, .int .i64 0, .slice none 0 0, .int .i64 0, .bool false, .bool false, .int .i64 0, .slice none 0 0, .slice none 0 0, .int .i64 0] 51))).heap.size := by simp
  have hq0 := hide (show ((w.alloc (Obj.cells #[.slice none 0 0, .int .i64 0, .slice none 0 0, .int .i64 0, .bool false, .bool false, .int .i64 0, .slice none 0 0, .slice none 0 0, .int .i64 0] 51))).heap.size = w.heap.size + 1 by simp)
  have hBres_0 : Bx (w.alloc (Obj.cells #[.slice none 0 0, .int .i64 0, .slice none 0 0, .int .i64 0, .bool false, .bool false, .int .i64 0, .slice none 0 0, .slice none 0 0, .int .i64 0] 51)) (w.heap.size) [.slice none 0 0, .int .i64 0, .slice none 0 0, .int .i64 0, .bool false, .bool false, .int .i64 0, .slice none 0 0, .slice none 0 0, .int .i64 0] := (by have := (Bx.new w #[.slice none 0 0, .int .i64 0, .slice none 0 0, .int .i64 0, .bool false, .bool false, .int .i64 0, .slice none 0 0, .slice none 0 0, .int .i64 0] 51); simpa using this)
  have hFres_0 : ∀ oo, ((w.alloc (Obj.cells #[.slice none 0 0, .int .i64 0, .slice none 0 0, .int .i64 0, .bool false, .bool false, .int .i64 0, .slice none 0 0, .slice none 0 0, .int .i64 0] 51))).frozen? ⟨w.heap.size, oo, none⟩ = false := fun oo => by simp
  generalize (w.alloc (Obj.cells #[.slice none 0 0, .int .i64 0, .slice none 0 0, .int .i64 0, .bool false, .bool false, .int .i64 0, .slice none 0 0, .slice none 0 0, .int .i64 0] 51)) = w0 at *
  go_wp2_with fail
  refine (l20Open_any code _ _ (h.ext he0)).mono ?_
  rintro e w1 ⟨rfl, hR1, hy⟩
  have hs1 := hy.size
  try simp at hs1
  have he1 : Ext w w1 := Ext.trans (Ext.hold he0) hy
  have hBres_1 : Bx w1 (w.heap.size) [.slice none 0 0, .int .i64 0, .slice none 0 0, .int .i64 0, .bool false, .bool false, .int .i64 0, .slice none 0 0, .slice none 0 0, .int .i64 0] := hy.bx (Bx.hold hBres_0) (by first | omega | (simp; done) | (simp; omega))
  have hFres_1 : ∀ oo, w1.frozen? ⟨w.heap.size, oo, none⟩ = false := fun oo => (hy.frozen (by first | omega | (simp; done) | (simp; omega))).trans ((fz_hold hFres_0) oo)
  clear hBres_0 hFres_0
  have hrb1 := hR1.lt
  have hrw : w.heap.size < w0.heap.size := by omega
  have hT1 : Turn [w0.heap.size] w1 w1 := Turn.refl _ _
  generalize hrbn : w0.heap.size = rb at *
  clear hrbn
  have hrlt : rb < w1.heap.size := by omega
  go_wp2_with fail
  refine (l20MachOr_any rb (rb + 1) 0 _ hR1 (by omega) 14 (by omega) (by omega)).mono ?_
  intro e w2 hmp
  unfold OrPost at hmp
  obtain ⟨⟨m, A1, A2, A3, A4, c1, c2, c3, c4, rfl, hlens, s1, s2, s3, s4⟩, hR2, hy⟩ := hmp
  have hns : ∀ x, New w1 w2 x → x < w2.heap.size ∧ x ∉ [w.heap.size] := fun x hx => ⟨hx.2, by have := hx.1; simp; omega⟩
  have hs2 := hy.size
  try simp at hs2
  have he2 : Ext w w2 := hy.ext (Ext.hold he1) (by simp; omega)
  have hBres_2 : Bx w2 (w.heap.size) [.slice none 0 0, .int .i64 0, .slice none 0 0, .int .i64 0, .bool false, .bool false, .int .i64 0, .slice none 0 0, .slice none 0 0, .int .i64 0] := hy.bx (Bx.hold hBres_1) (by first | omega | (simp; done) | (simp; omega)) (by simp; omega)
  have hFres_2 : ∀ oo, w2.frozen? ⟨w.heap.size, oo, none⟩ = false := fun oo => (hy.frozen (by first | omega | (simp; done) | (simp; omega)) (by simp; omega)).trans ((fz_hold hFres_1) oo)
  clear hBres_1 hFres_1
  clear hy he1
  have yres : w.heap.size < w2.heap.size := by omega
  have xres0 := hBres_2 0 _ rfl
  have xres1 := hBres_2 1 _ rfl
  have xres2 := hBres_2 2 _ rfl
  have xres3 := hBres_2 3 _ rfl
  have xres4 := hBres_2 4 _ rfl
  have xres5 := hBres_2 5 _ rfl
  have xres6 := hBres_2 6 _ rfl
  have xres7 := hBres_2 7 _ rfl
  have xres8 := hBres_2 8 _ rfl
  have xres9 := hBres_2 9 _ rfl
  have fres := hFres_2
  have hTw : Turn [w.heap.size] w2 ((((((((((w2.setCell ⟨w.heap.size, 0, none⟩ ((.slice A1 m.regs.length c1))).setCell ⟨w.heap.size, 1, none⟩ (.int .i64 m.pc)).setCell ⟨w.heap.size, 2, none⟩ ((.slice A2 m.mem.length c2))).setCell ⟨w.heap.size, 3, none⟩ (.int .i64 m.save)).setCell ⟨w.heap.size, 4, none⟩ (.bool m.lets)).setCell ⟨w.heap.size, 5, none⟩ (.bool m.waits)).setCell ⟨w.heap.size, 6, none⟩ (.int .i64 m.halt)).setCell ⟨w.heap.size, 7, none⟩ ((.slice A3 m.ins.length c3))).setCell ⟨w.heap.size, 8, none⟩ ((.slice A4 m.outs.length c4))).setCell ⟨w.heap.size, 9, none⟩ (.int .i64 m.count)) := Turn.hold (Turn.refl _ _)
  go_wp2
  refine bodyPost_ret (v := .agg #[(.slice A1 m.regs.length c1), .int .i64 m.pc, (.slice A2 m.mem.length c2), .int .i64 m.save, .bool m.lets, .bool m.waits, .int .i64 m.halt, (.slice A3 m.ins.length c3), (.slice A4 m.outs.length c4), .int .i64 m.count]) (by simp [results, Tryd.results42, go_sem, xres0, xres1, xres2, xres3, xres4, xres5, xres6, xres7, xres8, xres9]) rfl ?_
  unfold DFind
  exact ⟨m, A1, A2, A3, A4, c1, c2, c3, c4, rfl, hlens, (s1.turn hTw hns).keep (fun _ _ _ => rfl) (fun b hb => by have := (hns b hb).1; show b < _; simp; omega), (s2.turn hTw hns).keep (fun _ _ _ => rfl) (fun b hb => by have := (hns b hb).1; show b < _; simp; omega), (s3.turn hTw hns).keep (fun _ _ _ => rfl) (fun b hb => by have := (hns b hb).1; show b < _; simp; omega), (s4.turn hTw hns).keep (fun _ _ _ => rfl) (fun b hb => by have := (hns b hb).1; show b < _; simp; omega), Ext.hold he2⟩

theorem planNo {P : Program} {Q : Exit → Act → World → Prop} {S : World → Prop} {ops : List Oper} {n i : Nat} {r : Plan} {o : Oper} {a : Act} {w : World} (ho : ops[i]? = some o) (hw : Region.wanted o (yielded ops.toArray a.tmps) = false)
    (hQ : ∀ c a w, Q (.panic c) (a.put o.dst undef) w → Q (.panic c) a w) (h : r.wp P ops Q S n (a.put o.dst undef) w) : (Plan.float i r).wp P ops Q S n a w :=
  ⟨o, undef, ho, .inr ⟨hw, rfl⟩, hQ, h⟩

set_option maxHeartbeats 64000000 in
theorem lawBlkFind_any (code : List UInt8) (v : Value) (w : World) (h : Sl w (Old w) v code) (lf : Nat) (hF : Forms lf w) : Calls Tryd.prog 8 #[v] w fun e w' => e = .returned (.bool true) ∧ Ext w w' := by
  obtain ⟨Ac, cc, rfl, -, -⟩ := h.form
  by_cases hbig : 1048576 < code.length
  · have q1 : decide (1048576 < (code.length : Int)) = true := decide_eq_true (by omega)
    go_enter Tryd.func8, Tryd.ntmps8
    go_wp2
    go_ret
    exact ⟨rfl, Ext.refl _⟩
  have q1 : decide (1048576 < (code.length : Int)) = false := decide_eq_false (by omega)
  go_enter Tryd.func8, Tryd.ntmps8
  go_wp2_with fail
  refine (drawBlkFind_any code _ _ h).mono ?_
  intro e w1 hd
  unfold DFind at hd
  obtain ⟨m, A1m, A2m, A3m, A4m, c1m, c2m, c3m, c4m, rfl, ⟨hl1, hl2, hl3, hl4⟩, tm1, tm2, tm3, tm4, he1⟩ := hd
  have hs1 := he1.size
  have hb1_1 : Ext w1 w1 := Ext.refl _
  have HIW := hide True.intro
  clear q1 hbig
  go_upto_region 4 with fail
  have he2 : Ext w (w1.alloc (Obj.cells #[(.slice A1m m.regs.length c1m), .int .i64 m.pc, (.slice A2m m.mem.length c2m), .int .i64 m.save, .bool m.lets, .bool m.waits, .int .i64 m.halt, (.slice A3m m.ins.length c3m), (.slice A4m m.outs.length c4m), .int .i64 m.count] 51)) := Ext.hold he1
  have hs2 : w1.heap.size + 1 ≤ ((w1.alloc (Obj.cells #[(.slice A1m m.regs.length c1m), .int .i64 m.pc, (.slice A2m m.mem.length c2m), .int .i64 m.save, .bool m.lets, .bool m.waits, .int .i64 m.halt, (.slice A3m m.ins.length c3m), (.slice A4m m.outs.length c4m), .int .i64 m.count] 51))).heap.size := by simp
  have hb1_2 : Ext w1 (w1.alloc (Obj.cells #[(.slice A1m m.regs.length c1m), .int .i64 m.pc, (.slice A2m m.mem.length c2m), .int .i64 m.save, .bool m.lets, .bool m.waits, .int .i64 m.halt, (.slice A3m m.ins.length c3m), (.slice A4m m.outs.length c4m), .int .i64 m.count] 51)) := Ext.hold hb1_1
  have hBm_2 : Bx (w1.alloc (Obj.cells #[(.slice A1m m.regs.length c1m), .int .i64 m.pc, (.slice A2m m.mem.length c2m), .int .i64 m.save, .bool m.lets, .bool m.waits, .int .i64 m.halt, (.slice A3m m.ins.length c3m), (.slice A4m m.outs.length c4m), .int .i64 m.count] 51)) (w1.heap.size) [(.slice A1m m.regs.length c1m), .int .i64 m.pc, (.slice A2m m.mem.length c2m), .int .i64 m.save, .bool m.lets, .bool m.waits, .int .i64 m.halt, (.slice A3m m.ins.length c3m), (.slice A4m m.outs.length c4m), .int .i64 m.count] := Bx.new w1 #[(.slice A1m m.regs.length c1m), .int .i64 m.pc, (.slice A2m m.mem.length c2m), .int .i64 m.save, .bool m.lets, .bool m.waits, .int .i64 m.halt, (.slice A3m m.ins.length c3m), (.slice A4m m.outs.length c4m), .int .i64 m.count] 51
  have hFm_2 : ∀ oo, (w1.alloc (Obj.cells #[(.slice A1m m.regs.length c1m), .int .i64 m.pc, (.slice A2m m.mem.length c2m), .int .i64 m.save, .bool m.lets, .bool m.waits, .int .i64 m.halt, (.slice A3m m.ins.length c3m), (.slice A4m m.outs.length c4m), .int .i64 m.count] 51)).frozen? ⟨w1.heap.size, oo, none⟩ = false := fz_new w1 #[(.slice A1m m.regs.length c1m), .int .i64 m.pc, (.slice A2m m.mem.length c2m), .int .i64 m.save, .bool m.lets, .bool m.waits, .int .i64 m.halt, (.slice A3m m.ins.length c3m), (.slice A4m m.outs.length c4m), .int .i64 m.count] 51 rfl
  generalize (w1.alloc (Obj.cells #[(.slice A1m m.regs.length c1m), .int .i64 m.pc, (.slice A2m m.mem.length c2m), .int .i64 m.save, .bool m.lets, .bool m.waits, .int .i64 m.halt, (.slice A3m m.ins.length c3m), (.slice A4m m.outs.length c4m), .int .i64 m.count] 51)) = w2 at *
  clear hb1_1
  obtain ⟨L, hLd⟩ : ∃ L, blkFind m = L := ⟨_, rfl⟩
  have HL := hide hLd
  clear hLd
  have ym : w1.heap.size < w2.heap.size := by omega
  have xm0 := hBm_2 0 _ rfl
  have xm1 := hBm_2 1 _ rfl
  have xm2 := hBm_2 2 _ rfl
  have xm3 := hBm_2 3 _ rfl
  have xm4 := hBm_2 4 _ rfl
  have xm5 := hBm_2 5 _ rfl
  have xm6 := hBm_2 6 _ rfl
  have xm7 := hBm_2 7 _ rfl
  have xm8 := hBm_2 8 _ rfl
  have xm9 := hBm_2 9 _ rfl
  have fm := hFm_2
  go_wp2_with fail
  refine (implBlkFind_any m _ _ _ _ _ (tm1.ext (Ext.hold hb1_2)) (tm2.ext (Ext.hold hb1_2)) (tm3.ext (Ext.hold hb1_2)) (tm4.ext (Ext.hold hb1_2)) lf (hF.ext (Ext.hold he2))).mono ?_
  rintro e w3 ⟨⟨v, rfl, hG⟩, hy⟩
  rw [HL.out] at hG
  obtain ⟨Al, cl, rfl, -, -⟩ := hG.form
  have tl := hG.sl
  clear hG
  clear xm0 xm1 xm2 xm3 xm4 xm5 xm6 xm7 xm8 xm9 ym
  clear fm
  have hb1_3 : Ext w1 w3 := Ext.trans (Ext.hold hb1_2) hy
  have hs3 := hy.size
  try simp at hs3
  have he3 : Ext w w3 := Ext.trans (Ext.hold he2) hy
  have hBm_3 : Bx w3 (w1.heap.size) [(.slice A1m m.regs.length c1m), .int .i64 m.pc, (.slice A2m m.mem.length c2m), .int .i64 m.save, .bool m.lets, .bool m.waits, .int .i64 m.halt, (.slice A3m m.ins.length c3m), (.slice A4m m.outs.length c4m), .int .i64 m.count] := hy.bx (Bx.hold hBm_2) (by first | omega | (simp; done) | (simp; omega))
  have hFm_3 : ∀ oo, w3.frozen? ⟨w1.heap.size, oo, none⟩ = false := fun oo => (hy.frozen (by first | omega | (simp; done) | (simp; omega))).trans ((fz_hold hFm_2) oo)
  try clear hBm_2 hFm_2
  clear hy hb1_2
  have hb3_3 : Ext w3 w3 := Ext.refl _
  have ym : w1.heap.size < w3.heap.size := by omega
  have xm0 := hBm_3 0 _ rfl
  have xm1 := hBm_3 1 _ rfl
  have xm2 := hBm_3 2 _ rfl
  have xm3 := hBm_3 3 _ rfl
  have xm4 := hBm_3 4 _ rfl
  have xm5 := hBm_3 5 _ rfl
  have xm6 := hBm_3 6 _ rfl
  have xm7 := hBm_3 7 _ rfl
  have xm8 := hBm_3 8 _ rfl
  have xm9 := hBm_3 9 _ rfl
  have fm := hFm_3
  go_wp2_with fail
  refine (specBlkFind_any m _ _ _ _ _ (tm1.ext (Ext.hold hb1_3)) (tm2.ext (Ext.hold hb1_3)) (tm3.ext (Ext.hold hb1_3)) (tm4.ext (Ext.hold hb1_3))).mono ?_
  rintro e w4 ⟨⟨v, rfl, hG⟩, hy⟩
  rw [HL.out] at hG
  obtain ⟨Al2, cl2, rfl, -, -⟩ := hG.form
  clear xm0 xm1 xm2 xm3 xm4 xm5 xm6 xm7 xm8 xm9 ym
  clear fm
  have hb1_4 : Ext w1 w4 := Ext.trans (Ext.hold hb1_3) hy
  have hb3_4 : Ext w3 w4 := Ext.trans (Ext.hold hb3_3) hy
  have hs4 := hy.size
  try simp at hs4
  have he4 : Ext w w4 := Ext.trans (Ext.hold he3) hy
  have hBm_4 : Bx w4 (w1.heap.size) [(.slice A1m m.regs.length c1m), .int .i64 m.pc, (.slice A2m m.mem.length c2m), .int .i64 m.save, .bool m.lets, .bool m.waits, .int .i64 m.halt, (.slice A3m m.ins.length c3m), (.slice A4m m.outs.length c4m), .int .i64 m.count] := hy.bx (Bx.hold hBm_3) (by first | omega | (simp; done) | (simp; omega))
  have hFm_4 : ∀ oo, w4.frozen? ⟨w1.heap.size, oo, none⟩ = false := fun oo => (hy.frozen (by first | omega | (simp; done) | (simp; omega))).trans ((fz_hold hFm_3) oo)
  try clear hBm_3 hFm_3
  clear hy hb1_3 hb3_3
  have ym : w1.heap.size < w4.heap.size := by omega
  have xm0 := hBm_4 0 _ rfl
  have xm1 := hBm_4 1 _ rfl
  have xm2 := hBm_4 2 _ rfl
  have xm3 := hBm_4 3 _ rfl
  have xm4 := hBm_4 4 _ rfl
  have xm5 := hBm_4 5 _ rfl
  have xm6 := hBm_4 6 _ rfl
  have xm7 := hBm_4 7 _ rfl
  have xm8 := hBm_4 8 _ rfl
  have xm9 := hBm_4 9 _ rfl
  have fm := hFm_4
  go_wp2_with fail
  refine (laList_any L L _ _ _ (tl.ext (Ext.hold hb3_4)) hG.sl).mono ?_
  rintro e w5 ⟨rfl, hy⟩
  rw [decide_eq_true (rfl : L = L)]
  clear hG
  clear xm0 xm1 xm2 xm3 xm4 xm5 xm6 xm7 xm8 xm9 ym
  clear fm
  have hb1_5 : Ext w1 w5 := Ext.trans (Ext.hold hb1_4) hy
  have hb3_5 : Ext w3 w5 := Ext.trans (Ext.hold hb3_4) hy
  have hs5 := hy.size
  try simp at hs5
  have he5 : Ext w w5 := Ext.trans (Ext.hold he4) hy
  have hBm_5 : Bx w5 (w1.heap.size) [(.slice A1m m.regs.length c1m), .int .i64 m.pc, (.slice A2m m.mem.length c2m), .int .i64 m.save, .bool m.lets, .bool m.waits, .int .i64 m.halt, (.slice A3m m.ins.length c3m), (.slice A4m m.outs.length c4m), .int .i64 m.count] := hy.bx (Bx.hold hBm_4) (by first | omega | (simp; done) | (simp; omega))
  have hFm_5 : ∀ oo, w5.frozen? ⟨w1.heap.size, oo, none⟩ = false := fun oo => (hy.frozen (by first | omega | (simp; done) | (simp; omega))).trans ((fz_hold hFm_4) oo)
  try clear hBm_4 hFm_4
  clear hy hb1_4 hb3_4
  by_cases hL0 : L = []
  · 
    have q1 : ((L.length : Int) == 0) = true := by rw [hL0]; rfl
    have HN := hide hL0
    clear hL0
    cases q0 : mchOkB m
    · 
      have ym : w1.heap.size < w5.heap.size := by omega
      have xm0 := hBm_5 0 _ rfl
      have xm1 := hBm_5 1 _ rfl
      have xm2 := hBm_5 2 _ rfl
      have xm3 := hBm_5 3 _ rfl
      have xm4 := hBm_5 4 _ rfl
      have xm5 := hBm_5 5 _ rfl
      have xm6 := hBm_5 6 _ rfl
      have xm7 := hBm_5 7 _ rfl
      have xm8 := hBm_5 8 _ rfl
      have xm9 := hBm_5 9 _ rfl
      have fm := hFm_5
      go_wp2_with fail
      refine (specMchOk_any m _ _ _ _ _ (tm1.ext (Ext.hold hb1_5)) (tm2.ext (Ext.hold hb1_5)) (tm3.ext (Ext.hold hb1_5)) (tm4.ext (Ext.hold hb1_5))).mono ?_
      rintro e w6 ⟨rfl, hy⟩
      simp only [q0]
      clear xm0 xm1 xm2 xm3 xm4 xm5 xm6 xm7 xm8 xm9 ym
      clear fm
      have hb1_6 : Ext w1 w6 := Ext.trans (Ext.hold hb1_5) hy
      have hb3_6 : Ext w3 w6 := Ext.trans (Ext.hold hb3_5) hy
      have hs6 := hy.size
      try simp at hs6
      have he6 : Ext w w6 := Ext.trans (Ext.hold he5) hy
      have hBm_6 : Bx w6 (w1.heap.size) [(.slice A1m m.regs.length c1m), .int .i64 m.pc, (.slice A2m m.mem.length c2m), .int .i64 m.save, .bool m.lets, .bool m.waits, .int .i64 m.halt, (.slice A3m m.ins.length c3m), (.slice A4m m.outs.length c4m), .int .i64 m.count] := hy.bx (Bx.hold hBm_5) (by first | omega | (simp; done) | (simp; omega))
      have hFm_6 : ∀ oo, w6.frozen? ⟨w1.heap.size, oo, none⟩ = false := fun oo => (hy.frozen (by first | omega | (simp; done) | (simp; omega))).trans ((fz_hold hFm_5) oo)
      try clear hBm_5 hFm_5
      clear hy hb1_5 hb3_5
      have ym : w1.heap.size < w6.heap.size := by omega
      have xm0 := hBm_6 0 _ rfl
      have xm1 := hBm_6 1 _ rfl
      have xm2 := hBm_6 2 _ rfl
      have xm3 := hBm_6 3 _ rfl
      have xm4 := hBm_6 4 _ rfl
      have xm5 := hBm_6 5 _ rfl
      have xm6 := hBm_6 6 _ rfl
      have xm7 := hBm_6 7 _ rfl
      have xm8 := hBm_6 8 _ rfl
      have xm9 := hBm_6 9 _ rfl
      have fm := hFm_6
      go_wp2_with (go_at_call 12; refine (laOk_any _).mono ?_; rintro e w' ⟨rfl, rfl⟩)
      go_ret
      exact ⟨rfl, Ext.hold he6⟩
    · 
      have hk := mOk_iff.1 q0
      obtain ⟨P, hP⟩ := Int.eq_ofNat_of_zero_le hk.p0
      have hml := hk.ml
      have HM := hide (show P < m.mem.length → (findB m.mem 8 P = []) from fun _ => by
        have e := HL.out
        unfold blkFind at e
        rw [if_pos q0, hP] at e
        rw [← HN.out]
        exact e)
      have HP := hide hP
      have HK := hide hk
      by_cases h64 : P < 64
      rotate_left
      · 
        have q2 : decide (64 ≤ m.pc) = true := decide_eq_true (by omega)
        clear hk hP hml
        have ym : w1.heap.size < w5.heap.size := by omega
        have xm0 := hBm_5 0 _ rfl
        have xm1 := hBm_5 1 _ rfl
        have xm2 := hBm_5 2 _ rfl
        have xm3 := hBm_5 3 _ rfl
        have xm4 := hBm_5 4 _ rfl
        have xm5 := hBm_5 5 _ rfl
        have xm6 := hBm_5 6 _ rfl
        have xm7 := hBm_5 7 _ rfl
        have xm8 := hBm_5 8 _ rfl
        have xm9 := hBm_5 9 _ rfl
        have fm := hFm_5
        go_wp2_with fail
        refine (specMchOk_any m _ _ _ _ _ (tm1.ext (Ext.hold hb1_5)) (tm2.ext (Ext.hold hb1_5)) (tm3.ext (Ext.hold hb1_5)) (tm4.ext (Ext.hold hb1_5))).mono ?_
        rintro e w6 ⟨rfl, hy⟩
        simp only [q0]
        clear xm0 xm1 xm2 xm3 xm4 xm5 xm6 xm7 xm8 xm9 ym
        clear fm
        have hb1_6 : Ext w1 w6 := Ext.trans (Ext.hold hb1_5) hy
        have hb3_6 : Ext w3 w6 := Ext.trans (Ext.hold hb3_5) hy
        have hs6 := hy.size
        try simp at hs6
        have he6 : Ext w w6 := Ext.trans (Ext.hold he5) hy
        have hBm_6 : Bx w6 (w1.heap.size) [(.slice A1m m.regs.length c1m), .int .i64 m.pc, (.slice A2m m.mem.length c2m), .int .i64 m.save, .bool m.lets, .bool m.waits, .int .i64 m.halt, (.slice A3m m.ins.length c3m), (.slice A4m m.outs.length c4m), .int .i64 m.count] := hy.bx (Bx.hold hBm_5) (by first | omega | (simp; done) | (simp; omega))
        have hFm_6 : ∀ oo, w6.frozen? ⟨w1.heap.size, oo, none⟩ = false := fun oo => (hy.frozen (by first | omega | (simp; done) | (simp; omega))).trans ((fz_hold hFm_5) oo)
        try clear hBm_5 hFm_5
        clear hy hb1_5 hb3_5
        have ym : w1.heap.size < w6.heap.size := by omega
        have xm0 := hBm_6 0 _ rfl
        have xm1 := hBm_6 1 _ rfl
        have xm2 := hBm_6 2 _ rfl
        have xm3 := hBm_6 3 _ rfl
        have xm4 := hBm_6 4 _ rfl
        have xm5 := hBm_6 5 _ rfl
        have xm6 := hBm_6 6 _ rfl
        have xm7 := hBm_6 7 _ rfl
        have xm8 := hBm_6 8 _ rfl
        have xm9 := hBm_6 9 _ rfl
        have fm := hFm_6
        go_wp2_with (go_at_call 12; refine (laOk_any _).mono ?_; rintro e w' ⟨rfl, rfl⟩)
        go_ret
        exact ⟨rfl, Ext.hold he6⟩
      have q2 : decide (64 ≤ m.pc) = false := decide_eq_false (by omega)
      have hlt : P < m.mem.length := by omega
      have HB := hide (find_none hlt (HM.out hlt))
      have z0 : 0 ≤ m.pc := by omega
      have z1 : m.pc < (m.mem.length : Int) := by omega
      have z2 : m.pc.toNat = P := by omega
      clear hk hP hml
      have ym : w1.heap.size < w5.heap.size := by omega
      have xm0 := hBm_5 0 _ rfl
      have xm1 := hBm_5 1 _ rfl
      have xm2 := hBm_5 2 _ rfl
      have xm3 := hBm_5 3 _ rfl
      have xm4 := hBm_5 4 _ rfl
      have xm5 := hBm_5 5 _ rfl
      have xm6 := hBm_5 6 _ rfl
      have xm7 := hBm_5 7 _ rfl
      have xm8 := hBm_5 8 _ rfl
      have xm9 := hBm_5 9 _ rfl
      have fm := hFm_5
      go_wp2_with fail
      refine (specMchOk_any m _ _ _ _ _ (tm1.ext (Ext.hold hb1_5)) (tm2.ext (Ext.hold hb1_5)) (tm3.ext (Ext.hold hb1_5)) (tm4.ext (Ext.hold hb1_5))).mono ?_
      rintro e w6 ⟨rfl, hy⟩
      simp only [q0]
      clear xm0 xm1 xm2 xm3 xm4 xm5 xm6 xm7 xm8 xm9 ym
      clear fm
      have hb1_6 : Ext w1 w6 := Ext.trans (Ext.hold hb1_5) hy
      have hb3_6 : Ext w3 w6 := Ext.trans (Ext.hold hb3_5) hy
      have hs6 := hy.size
      try simp at hs6
      have he6 : Ext w w6 := Ext.trans (Ext.hold he5) hy
      have hBm_6 : Bx w6 (w1.heap.size) [(.slice A1m m.regs.length c1m), .int .i64 m.pc, (.slice A2m m.mem.length c2m), .int .i64 m.save, .bool m.lets, .bool m.waits, .int .i64 m.halt, (.slice A3m m.ins.length c3m), (.slice A4m m.outs.length c4m), .int .i64 m.count] := hy.bx (Bx.hold hBm_5) (by first | omega | (simp; done) | (simp; omega))
      have hFm_6 : ∀ oo, w6.frozen? ⟨w1.heap.size, oo, none⟩ = false := fun oo => (hy.frozen (by first | omega | (simp; done) | (simp; omega))).trans ((fz_hold hFm_5) oo)
      try clear hBm_5 hFm_5
      clear hy hb1_5 hb3_5
      obtain ⟨bb, off, rfl, hbo, hk0, e0⟩ := at_Int (tm2.ext (show Ext w1 w6 from Ext.hold hb1_6)) hlt
      have ym : w1.heap.size < w6.heap.size := by omega
      have xm0 := hBm_6 0 _ rfl
      have xm1 := hBm_6 1 _ rfl
      have xm2 := hBm_6 2 _ rfl
      have xm3 := hBm_6 3 _ rfl
      have xm4 := hBm_6 4 _ rfl
      have xm5 := hBm_6 5 _ rfl
      have xm6 := hBm_6 6 _ rfl
      have xm7 := hBm_6 7 _ rfl
      have xm8 := hBm_6 8 _ rfl
      have xm9 := hBm_6 9 _ rfl
      have fm := hFm_6
      go_wp2_with fail
      refine (implInsTake_any m.mem[P] _ lf (hF.ext (Ext.hold he6))).mono ?_
      rintro e w7 ⟨rfl, hy⟩
      clear xm0 xm1 xm2 xm3 xm4 xm5 xm6 xm7 xm8 xm9 ym
      clear fm
      clear e0
      have hb1_7 : Ext w1 w7 := Ext.trans (Ext.hold hb1_6) hy
      have hb3_7 : Ext w3 w7 := Ext.trans (Ext.hold hb3_6) hy
      have hs7 := hy.size
      try simp at hs7
      have he7 : Ext w w7 := Ext.trans (Ext.hold he6) hy
      have hBm_7 : Bx w7 (w1.heap.size) [(.slice A1m m.regs.length c1m), .int .i64 m.pc, (.slice (some ⟨bb, off, none⟩) m.mem.length c2m), .int .i64 m.save, .bool m.lets, .bool m.waits, .int .i64 m.halt, (.slice A3m m.ins.length c3m), (.slice A4m m.outs.length c4m), .int .i64 m.count] := hy.bx (Bx.hold hBm_6) (by first | omega | (simp; done) | (simp; omega))
      have hFm_7 : ∀ oo, w7.frozen? ⟨w1.heap.size, oo, none⟩ = false := fun oo => (hy.frozen (by first | omega | (simp; done) | (simp; omega))).trans ((fz_hold hFm_6) oo)
      try clear hBm_6 hFm_6
      clear hy hb1_6 hb3_6
      cases ho : insTakeB m.mem[P]
      · 
        clear ho
        have ym : w1.heap.size < w7.heap.size := by omega
        have xm0 := hBm_7 0 _ rfl
        have xm1 := hBm_7 1 _ rfl
        have xm2 := hBm_7 2 _ rfl
        have xm3 := hBm_7 3 _ rfl
        have xm4 := hBm_7 4 _ rfl
        have xm5 := hBm_7 5 _ rfl
        have xm6 := hBm_7 6 _ rfl
        have xm7 := hBm_7 7 _ rfl
        have xm8 := hBm_7 8 _ rfl
        have xm9 := hBm_7 9 _ rfl
        have fm := hFm_7
        go_wp2_with (go_at_call 12; refine (laOk_any _).mono ?_; rintro e w' ⟨rfl, rfl⟩)
        go_ret
        exact ⟨rfl, Ext.hold he7⟩
      · 
        have q3 : ((insTake m.mem[P]).op == 0) = true := by have := HB.out; rw [ho] at this; simpa using this
        clear ho
        have ym : w1.heap.size < w7.heap.size := by omega
        have xm0 := hBm_7 0 _ rfl
        have xm1 := hBm_7 1 _ rfl
        have xm2 := hBm_7 2 _ rfl
        have xm3 := hBm_7 3 _ rfl
        have xm4 := hBm_7 4 _ rfl
        have xm5 := hBm_7 5 _ rfl
        have xm6 := hBm_7 6 _ rfl
        have xm7 := hBm_7 7 _ rfl
        have xm8 := hBm_7 8 _ rfl
        have xm9 := hBm_7 9 _ rfl
        have fm := hFm_7
        go_wp2_with (go_at_call 12; refine (laOk_any _).mono ?_; rintro e w' ⟨rfl, rfl⟩)
        go_ret
        exact ⟨rfl, Ext.hold he7⟩
  · 
    have hne : 0 < L.length := List.length_pos_iff.2 hL0
    have q1 : ((L.length : Int) == 0) = false := by simp; omega
    have q0 : mchOkB m = true := by
      cases q : mchOkB m
      · exact absurd (HL.out.symm.trans (by unfold blkFind; rw [q]; rfl)) hL0
      · rfl
    have hk := mOk_iff.1 q0
    obtain ⟨P, hP⟩ := Int.eq_ofNat_of_zero_le hk.p0
    have hml := hk.ml
    have hfd : findB m.mem 8 P = L := by
      have e := HL.out
      unfold blkFind at e
      rw [if_pos q0, hP] at e
      exact e
    obtain ⟨f1, f2, f3, f4⟩ := find_code hml hfd hL0
    rw [← hP] at f1
    have HB := hide f1
    have HTK := hide (blkTake_put L f4)
    have hl8 : L.length ≤ 64 := by omega
    have HPU := hide f2
    generalize hQ : L.map insPut = Q at *
    have HQ := hide hQ
    have hQl : Q.length = L.length := by rw [← hQ]; simp
    have HQL := hide hQl
    have hQ64 : Q.length ≤ 64 := by omega
    obtain ⟨bm, om, rfl, -, hlcm, hcmm, hdm⟩ := tm2.dropN (k := P) (by omega)
    unfold maxLen at hcmm
    rw [show Rep.sz Int = 1 from rfl, Nat.mul_one] at hdm
    have hdt := hdm.take_ (k := L.length) (by rw [List.length_drop]; omega)
    have z0 : (0 : Int) ≤ m.pc := by omega
    have z1 : m.pc ≤ m.pc + (L.length : Int) := by omega
    have z2 : m.pc + (L.length : Int) ≤ (c2m : Int) := by omega
    have z3 : (m.pc + (L.length : Int)).toNat = P + L.length := by omega
    have z4 : m.pc.toNat = P := by omega
    have z5 : ¬ (c2m = P) := by omega
    have z6 : P + L.length - P = L.length := by omega
    have zw : IntKind.i64.wrap (m.pc + (L.length : Int)) = m.pc + (L.length : Int) := by rw [IntKind.wrap_i64]; omega
    have hpf : Fits m.pc := by unfold Fits; omega
    have hq64 : (Q.length : Int) = (L.length : Int) := by omega
    have HZ := hide hq64
    clear q0 hk hP hml hfd f1 f2 f3 f4 hQ hQl hq64 hdm hL0
    have tm5 := hdt
    clear hdt
    have ym : w1.heap.size < w5.heap.size := by omega
    have xm0 := hBm_5 0 _ rfl
    have xm1 := hBm_5 1 _ rfl
    have xm2 := hBm_5 2 _ rfl
    have xm3 := hBm_5 3 _ rfl
    have xm4 := hBm_5 4 _ rfl
    have xm5 := hBm_5 5 _ rfl
    have xm6 := hBm_5 6 _ rfl
    have xm7 := hBm_5 7 _ rfl
    have xm8 := hBm_5 8 _ rfl
    have xm9 := hBm_5 9 _ rfl
    have fm := hFm_5
    go_upto_region 12 with fail
    have hS : ∀ w', Ext w5 w' → ∀ bb oo, bb < w5.heap.size → w'.cell? ⟨bb, oo, none⟩ = w5.cell? ⟨bb, oo, none⟩ := fun w' hx bb oo hb => hx.cell hb
    refine wp_region_plan (fun w' => Ext w5 w') 24 (.float 0 (.float 1 (.float 2 (.chain 3 (.float 4 (.float 5 (.float 7 (.float 8 (.float 9 (.float 10 (.float 11 (.float 12 (.float 13 (.float 14 (.float 15 (.float 16 (.chain 6 (.chain 17 (.float 18 (.float 19 (.float 20 (.float 23 (.chain 21 (.chain 22 (.tail 24))))))))))))))))))))))))) (by kernel_rfl) (by kernel_rfl) (Ext.refl _).drew ?_
    iterate 3 ((refine Plan.float_step (v := ?_) rfl (by rfl) (fun _ _ _ h => h) (fun w' hSw => ?_) ?_; rotate_left; · (go_simp; try with_reducible rfl)); (try simp only [Act.put, List.setIfInBounds_toArray, List.set_cons_zero, List.set_cons_succ]))
    refine Plan.chain_step rfl (fun K hK => ?_)
    go_simp
    refine (implBlkOk_any m.pc L _ _ (tl.ext (Ext.hold hb3_5)) hpf lf (hF.ext (Ext.hold he5))).mono ?_
    rintro e w6 ⟨rfl, hy⟩
    rw [HB.out]
    refine hK.out _ _ (Ext.trans Ext.auto hy) ?_
    clear hK
    (try simp only [Act.put, List.setIfInBounds_toArray, List.set_cons_zero, List.set_cons_succ])
    have hb5_5 : Ext w5 w5 := Ext.refl _
    have hb1_6 : Ext w1 w6 := Ext.trans (Ext.hold hb1_5) hy
    have hb3_6 : Ext w3 w6 := Ext.trans (Ext.hold hb3_5) hy
    have hb5_6 : Ext w5 w6 := Ext.trans (Ext.hold hb5_5) hy
    have hs6 := hy.size
    try simp at hs6
    have he6 : Ext w w6 := Ext.trans (Ext.hold he5) hy
    have hBm_6 : Bx w6 (w1.heap.size) [(.slice A1m m.regs.length c1m), .int .i64 m.pc, (.slice (some ⟨bm, om, none⟩) m.mem.length c2m), .int .i64 m.save, .bool m.lets, .bool m.waits, .int .i64 m.halt, (.slice A3m m.ins.length c3m), (.slice A4m m.outs.length c4m), .int .i64 m.count] := hy.bx (Bx.hold hBm_5) (by first | omega | (simp; done) | (simp; omega))
    have hFm_6 : ∀ oo, w6.frozen? ⟨w1.heap.size, oo, none⟩ = false := fun oo => (hy.frozen (by first | omega | (simp; done) | (simp; omega))).trans ((fz_hold hFm_5) oo)
    try clear hBm_5 hFm_5
    clear hy hb1_5 hb3_5 hb5_5
    (refine Plan.float_step (v := ?_) rfl (by rfl) (fun _ _ _ h => h) (fun w' hSw => ?_) ?_; rotate_left; · (go_simp; try with_reducible rfl)); (try simp only [Act.put, List.setIfInBounds_toArray, List.set_cons_zero, List.set_cons_succ])
    iterate 11 ((first | (refine Plan.float_step (v := ?_) rfl (by rfl) (fun _ _ _ h => h) (fun w' hSw => ?_) ?_; rotate_left; · (go_simp; try with_reducible rfl)) | (refine planNo rfl (by rfl) (fun _ _ _ h => h) ?_)); (try simp only [Act.put, List.setIfInBounds_toArray, List.set_cons_zero, List.set_cons_succ]))
    refine Plan.chain_step rfl (fun K hK => ?_)
    go_simp
    refine (implBlkWords_any L _ _ (tl.ext (Ext.hold hb3_6)) (by omega) lf (hF.ext (Ext.hold he6))).mono ?_
    rintro e w7 ⟨⟨v, rfl, hG⟩, hy⟩
    rw [HQ.out] at hG
    obtain ⟨A6, c6, rfl, -, -⟩ := hG.form
    have t6 := hG.sl
    clear hG
    refine hK.out _ _ (Ext.trans (Ext.hold hb5_6) hy) ?_
    clear hK
    (try simp only [Act.put, List.setIfInBounds_toArray, List.set_cons_zero, List.set_cons_succ])
    have hb1_7 : Ext w1 w7 := Ext.trans (Ext.hold hb1_6) hy
    have hb3_7 : Ext w3 w7 := Ext.trans (Ext.hold hb3_6) hy
    have hb5_7 : Ext w5 w7 := Ext.trans (Ext.hold hb5_6) hy
    have hs7 := hy.size
    try simp at hs7
    have he7 : Ext w w7 := Ext.trans (Ext.hold he6) hy
    have hBm_7 : Bx w7 (w1.heap.size) [(.slice A1m m.regs.length c1m), .int .i64 m.pc, (.slice (some ⟨bm, om, none⟩) m.mem.length c2m), .int .i64 m.save, .bool m.lets, .bool m.waits, .int .i64 m.halt, (.slice A3m m.ins.length c3m), (.slice A4m m.outs.length c4m), .int .i64 m.count] := hy.bx (Bx.hold hBm_6) (by first | omega | (simp; done) | (simp; omega))
    have hFm_7 : ∀ oo, w7.frozen? ⟨w1.heap.size, oo, none⟩ = false := fun oo => (hy.frozen (by first | omega | (simp; done) | (simp; omega))).trans ((fz_hold hFm_6) oo)
    try clear hBm_6 hFm_6
    clear hy hb1_6 hb3_6 hb5_6
    have hb7_7 : Ext w7 w7 := Ext.refl _
    refine Plan.chain_step rfl (fun K hK => ?_)
    go_simp
    refine (laInts_any Q ((m.mem.drop P).take L.length) _ _ _ (t6.ext (Ext.hold hb7_7)) (tm5.ext (Ext.hold hb1_7))).mono ?_
    rintro e w8 ⟨rfl, hy⟩
    rw [decide_eq_true HPU.out]
    refine hK.out _ _ (Ext.trans (Ext.hold hb5_7) hy) ?_
    clear hK
    (try simp only [Act.put, List.setIfInBounds_toArray, List.set_cons_zero, List.set_cons_succ])
    have hb1_8 : Ext w1 w8 := Ext.trans (Ext.hold hb1_7) hy
    have hb3_8 : Ext w3 w8 := Ext.trans (Ext.hold hb3_7) hy
    have hb5_8 : Ext w5 w8 := Ext.trans (Ext.hold hb5_7) hy
    have hb7_8 : Ext w7 w8 := Ext.trans (Ext.hold hb7_7) hy
    have hs8 := hy.size
    try simp at hs8
    have he8 : Ext w w8 := Ext.trans (Ext.hold he7) hy
    have hBm_8 : Bx w8 (w1.heap.size) [(.slice A1m m.regs.length c1m), .int .i64 m.pc, (.slice (some ⟨bm, om, none⟩) m.mem.length c2m), .int .i64 m.save, .bool m.lets, .bool m.waits, .int .i64 m.halt, (.slice A3m m.ins.length c3m), (.slice A4m m.outs.length c4m), .int .i64 m.count] := hy.bx (Bx.hold hBm_7) (by first | omega | (simp; done) | (simp; omega))
    have hFm_8 : ∀ oo, w8.frozen? ⟨w1.heap.size, oo, none⟩ = false := fun oo => (hy.frozen (by first | omega | (simp; done) | (simp; omega))).trans ((fz_hold hFm_7) oo)
    try clear hBm_7 hFm_7
    clear hy hb1_7 hb3_7 hb5_7 hb7_7
    iterate 2 ((refine Plan.float_step (v := ?_) rfl (by rfl) (fun _ _ _ h => h) (fun w' hSw => ?_) ?_; rotate_left; · (go_simp; try with_reducible rfl)); (try simp only [Act.put, List.setIfInBounds_toArray, List.set_cons_zero, List.set_cons_succ]))
    iterate 2 ((first | (refine Plan.float_step (v := ?_) rfl (by rfl) (fun _ _ _ h => h) (fun w' hSw => ?_) ?_; rotate_left; · (go_simp; try with_reducible rfl)) | (refine planNo rfl (by rfl) (fun _ _ _ h => h) ?_)); (try simp only [Act.put, List.setIfInBounds_toArray, List.set_cons_zero, List.set_cons_succ]))
    refine Plan.chain_step rfl (fun K hK => ?_)
    go_simp
    refine (implBlkWords_any L _ _ (tl.ext (Ext.hold hb3_8)) (by omega) lf (hF.ext (Ext.hold he8))).mono ?_
    rintro e w9 ⟨⟨v, rfl, hG⟩, hy⟩
    rw [HQ.out] at hG
    obtain ⟨A7, c7, rfl, -, -⟩ := hG.form
    have t7 := hG.sl
    clear hG
    refine hK.out _ _ (Ext.trans (Ext.hold hb5_8) hy) ?_
    clear hK
    (try simp only [Act.put, List.setIfInBounds_toArray, List.set_cons_zero, List.set_cons_succ])
    have hb1_9 : Ext w1 w9 := Ext.trans (Ext.hold hb1_8) hy
    have hb3_9 : Ext w3 w9 := Ext.trans (Ext.hold hb3_8) hy
    have hb5_9 : Ext w5 w9 := Ext.trans (Ext.hold hb5_8) hy
    have hb7_9 : Ext w7 w9 := Ext.trans (Ext.hold hb7_8) hy
    have hs9 := hy.size
    try simp at hs9
    have he9 : Ext w w9 := Ext.trans (Ext.hold he8) hy
    have hBm_9 : Bx w9 (w1.heap.size) [(.slice A1m m.regs.length c1m), .int .i64 m.pc, (.slice (some ⟨bm, om, none⟩) m.mem.length c2m), .int .i64 m.save, .bool m.lets, .bool m.waits, .int .i64 m.halt, (.slice A3m m.ins.length c3m), (.slice A4m m.outs.length c4m), .int .i64 m.count] := hy.bx (Bx.hold hBm_8) (by first | omega | (simp; done) | (simp; omega))
    have hFm_9 : ∀ oo, w9.frozen? ⟨w1.heap.size, oo, none⟩ = false := fun oo => (hy.frozen (by first | omega | (simp; done) | (simp; omega))).trans ((fz_hold hFm_8) oo)
    try clear hBm_8 hFm_8
    clear hy hb1_8 hb3_8 hb5_8 hb7_8
    have hb9_9 : Ext w9 w9 := Ext.refl _
    refine Plan.chain_step rfl (fun K hK => ?_)
    go_simp
    refine (implBlkTake_any Q _ _ (t7.ext (Ext.hold hb9_9)) (by omega) lf (hF.ext (Ext.hold he9))).mono ?_
    rintro e w10 ⟨⟨v, rfl, hG⟩, hy⟩
    rw [HTK.out] at hG
    obtain ⟨A8, c8, rfl, -, -⟩ := hG.form
    have t8 := hG.sl
    clear hG
    refine hK.out _ _ (Ext.trans (Ext.hold hb5_9) hy) ?_
    clear hK
    (try simp only [Act.put, List.setIfInBounds_toArray, List.set_cons_zero, List.set_cons_succ])
    have hb1_10 : Ext w1 w10 := Ext.trans (Ext.hold hb1_9) hy
    have hb3_10 : Ext w3 w10 := Ext.trans (Ext.hold hb3_9) hy
    have hb5_10 : Ext w5 w10 := Ext.trans (Ext.hold hb5_9) hy
    have hb7_10 : Ext w7 w10 := Ext.trans (Ext.hold hb7_9) hy
    have hb9_10 : Ext w9 w10 := Ext.trans (Ext.hold hb9_9) hy
    have hs10 := hy.size
    try simp at hs10
    have he10 : Ext w w10 := Ext.trans (Ext.hold he9) hy
    have hBm_10 : Bx w10 (w1.heap.size) [(.slice A1m m.regs.length c1m), .int .i64 m.pc, (.slice (some ⟨bm, om, none⟩) m.mem.length c2m), .int .i64 m.save, .bool m.lets, .bool m.waits, .int .i64 m.halt, (.slice A3m m.ins.length c3m), (.slice A4m m.outs.length c4m), .int .i64 m.count] := hy.bx (Bx.hold hBm_9) (by first | omega | (simp; done) | (simp; omega))
    have hFm_10 : ∀ oo, w10.frozen? ⟨w1.heap.size, oo, none⟩ = false := fun oo => (hy.frozen (by first | omega | (simp; done) | (simp; omega))).trans ((fz_hold hFm_9) oo)
    try clear hBm_9 hFm_9
    clear hy hb1_9 hb3_9 hb5_9 hb7_9 hb9_9
    have hb10_10 : Ext w10 w10 := Ext.refl _
    refine Plan.tail_step ?_
    simp only [List.drop_succ_cons, List.drop_zero]
    clear hS
    clear xm0 xm1 xm2 xm3 xm4 xm5 xm6 xm7 xm8 xm9 ym
    clear fm
    go_wp2_with fail
    refine (laList_any L L _ _ _ (t8.ext (Ext.hold hb10_10)) (tl.ext (Ext.hold hb3_10))).mono ?_
    rintro e w11 ⟨rfl, hy⟩
    rw [decide_eq_true (rfl : L = L)]
    have hb1_11 : Ext w1 w11 := Ext.trans (Ext.hold hb1_10) hy
    have hb3_11 : Ext w3 w11 := Ext.trans (Ext.hold hb3_10) hy
    have hb5_11 : Ext w5 w11 := Ext.trans (Ext.hold hb5_10) hy
    have hb7_11 : Ext w7 w11 := Ext.trans (Ext.hold hb7_10) hy
    have hb9_11 : Ext w9 w11 := Ext.trans (Ext.hold hb9_10) hy
    have hb10_11 : Ext w10 w11 := Ext.trans (Ext.hold hb10_10) hy
    have hs11 := hy.size
    try simp at hs11
    have he11 : Ext w w11 := Ext.trans (Ext.hold he10) hy
    have hBm_11 : Bx w11 (w1.heap.size) [(.slice A1m m.regs.length c1m), .int .i64 m.pc, (.slice (some ⟨bm, om, none⟩) m.mem.length c2m), .int .i64 m.save, .bool m.lets, .bool m.waits, .int .i64 m.halt, (.slice A3m m.ins.length c3m), (.slice A4m m.outs.length c4m), .int .i64 m.count] := hy.bx (Bx.hold hBm_10) (by first | omega | (simp; done) | (simp; omega))
    have hFm_11 : ∀ oo, w11.frozen? ⟨w1.heap.size, oo, none⟩ = false := fun oo => (hy.frozen (by first | omega | (simp; done) | (simp; omega))).trans ((fz_hold hFm_10) oo)
    try clear hBm_10 hFm_10
    clear hy hb1_10 hb3_10 hb5_10 hb7_10 hb9_10 hb10_10
    have ym : w1.heap.size < w11.heap.size := by omega
    have xm0 := hBm_11 0 _ rfl
    have xm1 := hBm_11 1 _ rfl
    have xm2 := hBm_11 2 _ rfl
    have xm3 := hBm_11 3 _ rfl
    have xm4 := hBm_11 4 _ rfl
    have xm5 := hBm_11 5 _ rfl
    have xm6 := hBm_11 6 _ rfl
    have xm7 := hBm_11 7 _ rfl
    have xm8 := hBm_11 8 _ rfl
    have xm9 := hBm_11 9 _ rfl
    have fm := hFm_11
    go_wp2_with fail
    go_ret
    exact ⟨rfl, Ext.hold he11⟩

end Go.Proofs.YtokibcicoomceaaDoor
