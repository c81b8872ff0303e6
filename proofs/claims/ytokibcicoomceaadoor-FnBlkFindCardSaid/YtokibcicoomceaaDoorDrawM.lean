/-
  A machine is drawn.
-/
import Derived.Test.YtokibcicoomceaaDoorDrawG
import Derived.Test.YtokibcicoomceaaDoorRunS
import Derived.Deep.DeepCutAuto
namespace Go.Proofs.YtokibcicoomceaaDoor
open Go.RowKit

set_option linter.unusedVariables false
set_option linter.unusedSimpArgs false
set_option maxRecDepth 100000

/-- Other registers, that were made behind it. -/
theorem Own4C.setRegs {X : List Nat} {lo : Nat} {w w' : World} {r1 r2 r3 r4 : Value} {m : MchMach} {e lo' : Nat} {v : Value} {l : List Int} {F : List Nat} (h : Own4C e X lo w r1 r2 r3 r4 m) (k : Turn F w w') (hF : ∀ x, x ∈ F → x ∈ X ∨ x < lo) (hG : Gro e lo' w' v l) (hl : w.heap.size ≤ lo') (h0 : lo ≤ w.heap.size) (hX : ∀ x, x ∈ X → x < w.heap.size) : Own4C e X lo w' v r2 r3 r4 { m with regs := l } := by
  obtain ⟨G, hO, hN, hB⟩ := hG.own
  have hlt := hG.lt
  obtain ⟨G1, G2, G3, G4, k1, k2, k3, k4, kn, kb, d1, d4, g1, g4⟩ := h.turn k hF
  obtain ⟨E1, E2, E3, E4, b1, b2, b3, b4, bn, bb, c1, c4, a1, a4⟩ := h
  have hks := k.size
  have st : ∀ b, b ∈ E1 ++ E2 ++ E3 ++ E4 → w'.heap[b]? = w.heap[b]? := fun b hb => k.block b (bb b hb).2.1 (fun hm => by
    rcases hF b hm with q | q
    · exact (bb b hb).2.2 q
    · have := (bb b hb).1; omega)
  have up : ∀ b, b ∈ E2 ++ E3 ++ E4 → b ∈ E1 ++ E2 ++ E3 ++ E4 := fun b hb => by
    rcases List.mem_append.1 hb with hb | hb
    · rcases List.mem_append.1 hb with hb | hb <;> simp [hb]
    · simp [hb]
  refine ⟨G, E2, E3, E4, hO, b2.stay (fun b hb => st b (by simp [hb])), b3.stay (fun b hb => st b (by simp [hb])), b4.stay (fun b hb => st b (by simp [hb])), ?_, fun b hb => ?_, hG.cap, d4, fun q hq => ⟨by have := (hlt q hq).1; omega, (hlt q hq).2, fun hm => by have := hX q hm; have := (hlt q hq).1; omega⟩, fun q hq => ⟨(a4 q hq).1, by have := (a4 q hq).2.1; omega, (a4 q hq).2.2.1, fun hm => ?_⟩⟩
  · have hd : (E2 ++ E3 ++ E4).Nodup := by
      have : (E1 ++ (E2 ++ E3 ++ E4)).Nodup := by simpa [List.append_assoc] using bn
      exact (List.nodup_append.1 this).2.1
    have : (G ++ (E2 ++ E3 ++ E4)).Nodup := List.nodup_append.2 ⟨hN, hd, fun x hx y hy e => by
      have q1 := (hB x hx).1
      have q2 := (bb y (up y hy)).2.1
      omega⟩
    simpa [List.append_assoc] using this
  · have hb2 : b ∈ G ++ (E2 ++ E3 ++ E4) := by simpa [List.append_assoc] using hb
    rcases List.mem_append.1 hb2 with hg | hg
    · have := hB b hg
      exact ⟨by omega, this.2, fun hm => by have := hX b hm; omega⟩
    · have := bb b (up b hg)
      exact ⟨this.1, by omega, this.2.2⟩
  · have hm2 : q ∈ G ++ (E2 ++ E3) := by simpa [List.append_assoc] using hm
    rcases List.mem_append.1 hm2 with hg | hg
    · have := (hB q hg).1
      have := (a4 q hq).2.1
      omega
    · exact (a4 q hq).2.2.2 (by rcases List.mem_append.1 hg with hg | hg <;> simp [hg])
/-- A box that holds a machine that is ok. -/
def MBox (rb xb lo : Nat) (w : World) : Prop := ∃ (m : MchMach) (A1 A2 A3 A4 : Option Addr) (c1 c2 c3 c4 : Nat), MOk m ∧ m.ins.length ≤ 4 ∧ m.outs.length ≤ 60 ∧ Own4C 3 [rb, xb] lo w (.slice A1 m.regs.length c1) (.slice A2 m.mem.length c2) (.slice A3 m.ins.length c3) (.slice A4 m.outs.length c4) m ∧ Bx w xb [(.slice A1 m.regs.length c1), .int .i64 m.pc, (.slice A2 m.mem.length c2), .int .i64 m.save, .bool m.lets, .bool m.waits, .int .i64 m.halt, (.slice A3 m.ins.length c3), (.slice A4 m.outs.length c4), .int .i64 m.count] ∧ (∀ oo, w.frozen? ⟨xb, oo, none⟩ = false)
theorem MBox.turn {rb xb lo : Nat} {w w' : World} (h : MBox rb xb lo w) (k : Turn [rb] w w') (h1 : xb < w.heap.size) (h2 : rb ≠ xb) : MBox rb xb lo w' := by
  obtain ⟨m, A1, A2, A3, A4, c1, c2, c3, c4, hk, hi, ho, hO, hB, hF⟩ := h
  exact ⟨m, A1, A2, A3, A4, c1, c2, c3, c4, hk, hi, ho, hO.turn k (by simp), k.bx hB h1 (by simpa using h2.symm), fun oo => (k.frozen h1 (by simpa using h2.symm)).trans (hF oo)⟩
theorem MOk.regs' {m : MchMach} (h : MOk m) {l : List Int} (hl : l.length = 4) (hw : ∀ x, x ∈ l → 0 ≤ x ∧ x < 65536) : MOk { m with regs := l } := ⟨hl, hw, h.p0, h.p1, h.ml, h.mw, h.s0, h.s1, h.h0, h.h1, h.iw, h.ow, h.c0, h.c1⟩
theorem MOk.pc' {m : MchMach} (h : MOk m) {n : Int} (h0 : 0 ≤ n) (h1 : n < 65536) : MOk { m with pc := n } := ⟨h.rl, h.rw_, h0, h1, h.ml, h.mw, h.s0, h.s1, h.h0, h.h1, h.iw, h.ow, h.c0, h.c1⟩
theorem MOk.waits' {m : MchMach} (h : MOk m) (b : Bool) : MOk { m with waits := b } := ⟨h.rl, h.rw_, h.p0, h.p1, h.ml, h.mw, h.s0, h.s1, h.h0, h.h1, h.iw, h.ow, h.c0, h.c1⟩
theorem mIter_lens (irqs : List Int) : ∀ (k : Nat) (x : MchMach), (mIter irqs k x).outs.length ≤ x.outs.length + k ∧ (mIter irqs k x).ins.length ≤ x.ins.length
  | 0, x => ⟨Nat.le_refl _, Nat.le_refl _⟩
  | k + 1, x => by
    cases hg : mGoes x
    · rw [mIter_stays hg]; omega
    · have ih := mIter_lens irqs k (mAct x (hasI irqs x.count))
      have hl := mAct_lens x (hasI irqs x.count)
      rw [mIter_goes hg]
      omega
theorem mIter_ok (irqs : List Int) : ∀ (k : Nat) (x : MchMach), MOk x → MOk (mIter irqs k x)
  | 0, x, h => h
  | k + 1, x, h => by
    cases hg : mGoes x
    · rw [mIter_stays hg]; exact h
    · rw [mIter_goes hg]
      exact mIter_ok irqs k _ (h.act (mGoes_iff.1 hg).2 _)
theorem mRun_ok {m : MchMach} (irqs : List Int) {n : Int} (h : MOk m) (h0 : 0 ≤ n) (hn : n ≤ 400) : MOk (mRun m irqs n) ∧ (mRun m irqs n).outs.length ≤ m.outs.length + n.toNat ∧ (mRun m irqs n).ins.length ≤ m.ins.length := by
  rw [mRun_iter (mOk_iff.2 h) hn]
  have := mIter_lens irqs n.toNat m
  exact ⟨mIter_ok irqs _ m h, this.1, this.2⟩

def MachPost (rb base P : Nat) (w : World) (e : Ending) (w' : World) : Prop := (∃ (m : MchMach) (A1 A2 A3 A4 : Option Addr) (c1 c2 c3 c4 : Nat), e = .returned (.agg #[(.slice A1 m.regs.length c1), .int .i64 m.pc, (.slice A2 m.mem.length c2), .int .i64 m.save, .bool m.lets, .bool m.waits, .int .i64 m.halt, (.slice A3 m.ins.length c3), (.slice A4 m.outs.length c4), .int .i64 m.count]) ∧ MOk m ∧ m.ins.length ≤ 4 ∧ m.outs.length ≤ 60 ∧ Own4C 3 [rb] w.heap.size w' (.slice A1 m.regs.length c1) (.slice A2 m.mem.length c2) (.slice A3 m.ins.length c3) (.slice A4 m.outs.length c4) m) ∧ Rdr rb base (P + 2104) w' ∧ Turn [rb] w w'

set_option maxHeartbeats 16000000 in
theorem l20Mach_any (rb base P : Nat) (w : World) (h : Rdr rb base P w) (hP : P ≤ 1099511500000)  :
    Calls Tryd.prog 96 #[.pointer (some ⟨rb, 0, none⟩)] w fun e w' => MachPost rb base P w e w' := by
  have hlt := h.lt
  have hlt1 := hlt.1
  have hlt2 := hlt.2
  clear hlt
  go_enter Tryd.func96, Tryd.ntmps96
  go_upto_region 1 with fail
  have he0 : Ext w (w.alloc (Obj.cells #[.slice none 0 0, .int .i64 0, .slice none 0 0, .int .i64 0, .bool false, .bool false, .int .i64 0, .slice none 0 0, .slice none 0 0, .int .i64 0] 51)) := (Ext.auto)
  have hs0 : w.heap.size + 1 ≤ ((w.alloc (Obj.cells #[.slice none 0 0, .int .i64 0, .slice none 0 0, .int .i64 0, .bool false, .bool false, .int .i64 0, .slice none 0 0, .slice none 0 0, .int .i64 0] 51))).heap.size := by simp
  have hq0 := hide (show ((w.alloc (Obj.cells #[.slice none 0 0, .int .i64 0, .slice none 0 0, .int .i64 0, .bool false, .bool false, .int .i64 0, .slice none 0 0, .slice none 0 0, .int .i64 0] 51))).heap.size = w.heap.size + 1 by simp)
  have hBres_0 : Bx (w.alloc (Obj.cells #[.slice none 0 0, .int .i64 0, .slice none 0 0, .int .i64 0, .bool false, .bool false, .int .i64 0, .slice none 0 0, .slice none 0 0, .int .i64 0] 51)) (w.heap.size) [.slice none 0 0, .int .i64 0, .slice none 0 0, .int .i64 0, .bool false, .bool false, .int .i64 0, .slice none 0 0, .slice none 0 0, .int .i64 0] := (by have := (Bx.new w #[.slice none 0 0, .int .i64 0, .slice none 0 0, .int .i64 0, .bool false, .bool false, .int .i64 0, .slice none 0 0, .slice none 0 0, .int .i64 0] 51); simpa using this)
  have hFres_0 : ∀ oo, ((w.alloc (Obj.cells #[.slice none 0 0, .int .i64 0, .slice none 0 0, .int .i64 0, .bool false, .bool false, .int .i64 0, .slice none 0 0, .slice none 0 0, .int .i64 0] 51))).frozen? ⟨w.heap.size, oo, none⟩ = false := fun oo => by simp
  generalize (w.alloc (Obj.cells #[.slice none 0 0, .int .i64 0, .slice none 0 0, .int .i64 0, .bool false, .bool false, .int .i64 0, .slice none 0 0, .slice none 0 0, .int .i64 0] 51)) = w0 at *
  have hR0 : Rdr rb base P w0 := h.ext he0
  have hT0 : Turn [rb] w w0 := Turn.of_ext he0 _
  go_wp2_with fail
  refine (l20Image_any rb base _ _ (Rdr.hold hR0) (by omega)).mono ?_
  rintro e w1 ⟨⟨v, rfl, l, hG1, hl48, hl60, hlw⟩, hR1, hy⟩
  have hs1 := hy.size
  try simp at hs1
  have hT1 : Turn [rb] w w1 := (Turn.hold hT0).trans hy
  have hBres_1 : Bx w1 (w.heap.size) [.slice none 0 0, .int .i64 0, .slice none 0 0, .int .i64 0, .bool false, .bool false, .int .i64 0, .slice none 0 0, .slice none 0 0, .int .i64 0] := hy.bx (Bx.hold hBres_0) (by first | omega | (simp; done) | (simp; omega)) (by simp; omega)
  have hFres_1 : ∀ oo, w1.frozen? ⟨w.heap.size, oo, none⟩ = false := fun oo => (hy.frozen (by first | omega | (simp; done) | (simp; omega)) (by simp; omega)).trans ((fz_hold hFres_0) oo)
  clear hBres_0 hFres_0
  clear hy
  have HLW := hide hlw
  clear hlw
  go_wp2_with fail
  refine (pick_any rb base _ _ (Rdr.hold hR1) (by omega) 5 (by omega) (by omega)).mono ?_
  rintro e w2 ⟨⟨x, rfl, lx, qx⟩, hR2, hy⟩
  have ux : x < 5 := by omega
  clear qx
  have hG2 := hG1.turn hy (fun q hq => by have := (hG1.lt q hq).1; simp; omega)
  clear hG1
  have hs2 := hy.size
  try simp at hs2
  have hT2 : Turn [rb] w w2 := (Turn.hold hT1).trans hy
  have hBres_2 : Bx w2 (w.heap.size) [.slice none 0 0, .int .i64 0, .slice none 0 0, .int .i64 0, .bool false, .bool false, .int .i64 0, .slice none 0 0, .slice none 0 0, .int .i64 0] := hy.bx (Bx.hold hBres_1) (by first | omega | (simp; done) | (simp; omega)) (by simp; omega)
  have hFres_2 : ∀ oo, w2.frozen? ⟨w.heap.size, oo, none⟩ = false := fun oo => (hy.frozen (by first | omega | (simp; done) | (simp; omega)) (by simp; omega)).trans ((fz_hold hFres_1) oo)
  clear hBres_1 hFres_1
  go_wp2_with fail
  refine (l20Words_any rb base _ _ (Rdr.hold hR2) (by omega) x (by omega) (by omega)).mono ?_
  rintro e w3 ⟨⟨v3, rfl, l3, hG3, hl3, hlw3⟩, hR3, hy⟩
  have hG23 := hG2.turn hy (fun q hq => by have := (hG2.lt q hq).1; simp; omega)
  have HLW3 := hide hlw3
  have hl3b : l3.length ≤ 4 := by omega
  clear hlw3 hl3 hG2
  have hs3 := hy.size
  try simp at hs3
  have hT3 : Turn [rb] w w3 := (Turn.hold hT2).trans hy
  have hBres_3 : Bx w3 (w.heap.size) [.slice none 0 0, .int .i64 0, .slice none 0 0, .int .i64 0, .bool false, .bool false, .int .i64 0, .slice none 0 0, .slice none 0 0, .int .i64 0] := hy.bx (Bx.hold hBres_2) (by first | omega | (simp; done) | (simp; omega)) (by simp; omega)
  have hFres_3 : ∀ oo, w3.frozen? ⟨w.heap.size, oo, none⟩ = false := fun oo => (hy.frozen (by first | omega | (simp; done) | (simp; omega)) (by simp; omega)).trans ((fz_hold hFres_2) oo)
  clear hBres_2 hFres_2
  clear hy
  go_wp2_with fail
  refine (specMchNew_any l l3 _ _ _ hG23.sl hG3.sl (by omega) (wordsB_iff.2 HLW.out) (wordsB_iff.2 HLW3.out) (by omega)).mono ?_
  intro e w4 hnp
  unfold NewPost at hnp
  obtain ⟨m, r1, r2, r3, r4, rfl, hk, ho, hi, s1, s2, s3, s4, hy⟩ := hnp
  have hol : m.outs.length = 0 := by rw [ho]; rfl
  have HO := hide hol
  clear hol ho
  obtain ⟨A1, c1, rfl, -, -⟩ := s1.form
  obtain ⟨A2, c2, rfl, -, -⟩ := s2.form
  obtain ⟨A3, c3, rfl, -, -⟩ := s3.form
  obtain ⟨A4, c4, rfl, -, -⟩ := s4.form
  have hns : ∀ x, New w3 w4 x → x < w4.heap.size ∧ x ∉ [rb] := fun x hx => ⟨hx.2, by have := hx.1; simp; omega⟩
  have hs4 := hy.size
  try simp at hs4
  have hT4 : Turn [rb] w w4 := (Turn.hold hT3).call hy
  have hR4 := (Rdr.hold hR3).ext hy
  have hBres_4 : Bx w4 (w.heap.size) [.slice none 0 0, .int .i64 0, .slice none 0 0, .int .i64 0, .bool false, .bool false, .int .i64 0, .slice none 0 0, .slice none 0 0, .int .i64 0] := hy.bx (Bx.hold hBres_3) (by first | omega | (simp; done) | (simp; omega))
  have hFres_4 : ∀ oo, w4.frozen? ⟨w.heap.size, oo, none⟩ = false := fun oo => (hy.frozen (by first | omega | (simp; done) | (simp; omega))).trans ((fz_hold hFres_3) oo)
  clear hBres_3 hFres_3
  clear hy hG23 hG3 HLW HLW3
  go_upto_region 2 with fail
  have s1 := s1.turn (Turn.of_ext (show Ext w4 (w4.alloc (Obj.cells #[(.slice A1 m.regs.length c1), .int .i64 m.pc, (.slice A2 m.mem.length c2), .int .i64 m.save, .bool m.lets, .bool m.waits, .int .i64 m.halt, (.slice A3 m.ins.length c3), (.slice A4 m.outs.length c4), .int .i64 m.count] 51)) from Ext.auto) [rb]) hns
  have s2 := s2.turn (Turn.of_ext (show Ext w4 (w4.alloc (Obj.cells #[(.slice A1 m.regs.length c1), .int .i64 m.pc, (.slice A2 m.mem.length c2), .int .i64 m.save, .bool m.lets, .bool m.waits, .int .i64 m.halt, (.slice A3 m.ins.length c3), (.slice A4 m.outs.length c4), .int .i64 m.count] 51)) from Ext.auto) [rb]) hns
  have s3 := s3.turn (Turn.of_ext (show Ext w4 (w4.alloc (Obj.cells #[(.slice A1 m.regs.length c1), .int .i64 m.pc, (.slice A2 m.mem.length c2), .int .i64 m.save, .bool m.lets, .bool m.waits, .int .i64 m.halt, (.slice A3 m.ins.length c3), (.slice A4 m.outs.length c4), .int .i64 m.count] 51)) from Ext.auto) [rb]) hns
  have s4 := s4.turn (Turn.of_ext (show Ext w4 (w4.alloc (Obj.cells #[(.slice A1 m.regs.length c1), .int .i64 m.pc, (.slice A2 m.mem.length c2), .int .i64 m.save, .bool m.lets, .bool m.waits, .int .i64 m.halt, (.slice A3 m.ins.length c3), (.slice A4 m.outs.length c4), .int .i64 m.count] 51)) from Ext.auto) [rb]) hns
  have hR5 : Rdr rb base _ (w4.alloc (Obj.cells #[(.slice A1 m.regs.length c1), .int .i64 m.pc, (.slice A2 m.mem.length c2), .int .i64 m.save, .bool m.lets, .bool m.waits, .int .i64 m.halt, (.slice A3 m.ins.length c3), (.slice A4 m.outs.length c4), .int .i64 m.count] 51)) := Rdr.hold hR4
  have hT5 : Turn [rb] w (w4.alloc (Obj.cells #[(.slice A1 m.regs.length c1), .int .i64 m.pc, (.slice A2 m.mem.length c2), .int .i64 m.save, .bool m.lets, .bool m.waits, .int .i64 m.halt, (.slice A3 m.ins.length c3), (.slice A4 m.outs.length c4), .int .i64 m.count] 51)) := Turn.hold hT4
  have hs5 : w4.heap.size + 1 ≤ ((w4.alloc (Obj.cells #[(.slice A1 m.regs.length c1), .int .i64 m.pc, (.slice A2 m.mem.length c2), .int .i64 m.save, .bool m.lets, .bool m.waits, .int .i64 m.halt, (.slice A3 m.ins.length c3), (.slice A4 m.outs.length c4), .int .i64 m.count] 51))).heap.size := by simp
  have hBres_5 : Bx (w4.alloc (Obj.cells #[(.slice A1 m.regs.length c1), .int .i64 m.pc, (.slice A2 m.mem.length c2), .int .i64 m.save, .bool m.lets, .bool m.waits, .int .i64 m.halt, (.slice A3 m.ins.length c3), (.slice A4 m.outs.length c4), .int .i64 m.count] 51)) (w.heap.size) [.slice none 0 0, .int .i64 0, .slice none 0 0, .int .i64 0, .bool false, .bool false, .int .i64 0, .slice none 0 0, .slice none 0 0, .int .i64 0] := Bx.hold hBres_4
  have hFres_5 : ∀ oo, (w4.alloc (Obj.cells #[(.slice A1 m.regs.length c1), .int .i64 m.pc, (.slice A2 m.mem.length c2), .int .i64 m.save, .bool m.lets, .bool m.waits, .int .i64 m.halt, (.slice A3 m.ins.length c3), (.slice A4 m.outs.length c4), .int .i64 m.count] 51)).frozen? ⟨w.heap.size, oo, none⟩ = false := fz_hold hFres_4
  have hBx_5 : Bx (w4.alloc (Obj.cells #[(.slice A1 m.regs.length c1), .int .i64 m.pc, (.slice A2 m.mem.length c2), .int .i64 m.save, .bool m.lets, .bool m.waits, .int .i64 m.halt, (.slice A3 m.ins.length c3), (.slice A4 m.outs.length c4), .int .i64 m.count] 51)) (w4.heap.size) [(.slice A1 m.regs.length c1), .int .i64 m.pc, (.slice A2 m.mem.length c2), .int .i64 m.save, .bool m.lets, .bool m.waits, .int .i64 m.halt, (.slice A3 m.ins.length c3), (.slice A4 m.outs.length c4), .int .i64 m.count] := Bx.new w4 #[(.slice A1 m.regs.length c1), .int .i64 m.pc, (.slice A2 m.mem.length c2), .int .i64 m.save, .bool m.lets, .bool m.waits, .int .i64 m.halt, (.slice A3 m.ins.length c3), (.slice A4 m.outs.length c4), .int .i64 m.count] 51
  have hFx_5 : ∀ oo, (w4.alloc (Obj.cells #[(.slice A1 m.regs.length c1), .int .i64 m.pc, (.slice A2 m.mem.length c2), .int .i64 m.save, .bool m.lets, .bool m.waits, .int .i64 m.halt, (.slice A3 m.ins.length c3), (.slice A4 m.outs.length c4), .int .i64 m.count] 51)).frozen? ⟨w4.heap.size, oo, none⟩ = false := fz_new w4 #[(.slice A1 m.regs.length c1), .int .i64 m.pc, (.slice A2 m.mem.length c2), .int .i64 m.save, .bool m.lets, .bool m.waits, .int .i64 m.halt, (.slice A3 m.ins.length c3), (.slice A4 m.outs.length c4), .int .i64 m.count] 51 rfl
  generalize (w4.alloc (Obj.cells #[(.slice A1 m.regs.length c1), .int .i64 m.pc, (.slice A2 m.mem.length c2), .int .i64 m.save, .bool m.lets, .bool m.waits, .int .i64 m.halt, (.slice A3 m.ins.length c3), (.slice A4 m.outs.length c4), .int .i64 m.count] 51)) = w5 at *
  clear hBres_4 hFres_4
  have hns : ∀ x, New w3 w4 x → x < w5.heap.size ∧ x ∉ [rb] := fun x hx => ⟨by have := hx.2; omega, (hns x hx).2⟩
  have yx : w4.heap.size < w5.heap.size := by omega
  have xx0 := hBx_5 0 _ rfl
  have xx1 := hBx_5 1 _ rfl
  have xx2 := hBx_5 2 _ rfl
  have xx3 := hBx_5 3 _ rfl
  have xx4 := hBx_5 4 _ rfl
  have xx5 := hBx_5 5 _ rfl
  have xx6 := hBx_5 6 _ rfl
  have xx7 := hBx_5 7 _ rfl
  have xx8 := hBx_5 8 _ rfl
  have xx9 := hBx_5 9 _ rfl
  have fx := hFx_5
  go_upto_region 2 with fail
  have hSx : ∀ w', Turn [rb] w5 w' → ∀ oo, w'.cell? ⟨w4.heap.size, oo, none⟩ = w5.cell? ⟨w4.heap.size, oo, none⟩ := fun w' hx oo => hx.cell (by omega) (by simp; omega)
  refine wp_region_plan (fun w' => Turn [rb] w5 w') 5 (.float 0 (.float 1 (.float 3 (.chain 2 (.chain 4 (.tail 5)))))) (by kernel_rfl) (by kernel_rfl) (Turn.of_ext (Ext.refl _).drew _) ?_
  iterate 3 ((refine Plan.float_step (v := ?_) rfl (by rfl) (fun _ _ _ h => h) (fun w' hSw => ?_) ?_; rotate_left; · (go_simp; try with_reducible rfl)); (try simp only [Act.put, List.setIfInBounds_toArray, List.set_cons_zero, List.set_cons_succ]))
  refine Plan.chain_step rfl (fun K hK => ?_)
  go_simp
  refine (l20Irqs_any rb base _ _ (Rdr.hold hR5) (by omega)).mono ?_
  rintro e w6 ⟨⟨v6, rfl, l6, hG6, hl6, -⟩, hR6, hy⟩
  have hW6 : Turn [rb] w5 w6 := Turn.pre Ext.auto hy
  refine hK.out _ _ hW6 ?_
  clear hK
  (try simp only [Act.put, List.setIfInBounds_toArray, List.set_cons_zero, List.set_cons_succ])
  have s1 := s1.turn hW6 hns
  have s2 := s2.turn hW6 hns
  have s3 := s3.turn hW6 hns
  have s4 := s4.turn hW6 hns
  have hns : ∀ x, New w3 w4 x → x < w6.heap.size ∧ x ∉ [rb] := fun x hx => ⟨by have := hW6.size; have := (hns x hx).1; omega, (hns x hx).2⟩
  clear xx0 xx1 xx2 xx3 xx4 xx5 xx6 xx7 xx8 xx9 yx
  clear fx
  have hs6 := hy.size
  try simp at hs6
  have hT6 : Turn [rb] w w6 := (Turn.hold hT5).trans hy
  have hBres_6 : Bx w6 (w.heap.size) [.slice none 0 0, .int .i64 0, .slice none 0 0, .int .i64 0, .bool false, .bool false, .int .i64 0, .slice none 0 0, .slice none 0 0, .int .i64 0] := hy.bx (Bx.hold hBres_5) (by first | omega | (simp; done) | (simp; omega)) (by simp; omega)
  have hFres_6 : ∀ oo, w6.frozen? ⟨w.heap.size, oo, none⟩ = false := fun oo => (hy.frozen (by first | omega | (simp; done) | (simp; omega)) (by simp; omega)).trans ((fz_hold hFres_5) oo)
  have hBx_6 : Bx w6 (w4.heap.size) [(.slice A1 m.regs.length c1), .int .i64 m.pc, (.slice A2 m.mem.length c2), .int .i64 m.save, .bool m.lets, .bool m.waits, .int .i64 m.halt, (.slice A3 m.ins.length c3), (.slice A4 m.outs.length c4), .int .i64 m.count] := hy.bx (Bx.hold hBx_5) (by first | omega | (simp; done) | (simp; omega)) (by simp; omega)
  have hFx_6 : ∀ oo, w6.frozen? ⟨w4.heap.size, oo, none⟩ = false := fun oo => (hy.frozen (by first | omega | (simp; done) | (simp; omega)) (by simp; omega)).trans ((fz_hold hFx_5) oo)
  clear hBres_5 hFres_5 hBx_5 hFx_5
  clear hy
  have yx : w4.heap.size < w6.heap.size := by omega
  have xx0 := hBx_6 0 _ rfl
  have xx1 := hBx_6 1 _ rfl
  have xx2 := hBx_6 2 _ rfl
  have xx3 := hBx_6 3 _ rfl
  have xx4 := hBx_6 4 _ rfl
  have xx5 := hBx_6 5 _ rfl
  have xx6 := hBx_6 6 _ rfl
  have xx7 := hBx_6 7 _ rfl
  have xx8 := hBx_6 8 _ rfl
  have xx9 := hBx_6 9 _ rfl
  have fx := hFx_6
  refine Plan.chain_step rfl (fun K hK => ?_)
  go_simp
  refine (pick_any rb base _ _ (Rdr.hold hR6) (by omega) 40 (by omega) (by omega)).mono ?_
  rintro e w7 ⟨⟨n, rfl, ln, qn⟩, hR7, hy⟩
  have un : n < 40 := by omega
  clear qn
  refine hK.out _ _ (hW6.trans (Turn.pre Ext.auto hy)) ?_
  clear hK
  (try simp only [Act.put, List.setIfInBounds_toArray, List.set_cons_zero, List.set_cons_succ])
  have s1 := s1.turn hy hns
  have s2 := s2.turn hy hns
  have s3 := s3.turn hy hns
  have s4 := s4.turn hy hns
  have hns : ∀ x, New w3 w4 x → x < w7.heap.size ∧ x ∉ [rb] := fun x hx => ⟨by have := hy.size; have := (hns x hx).1; omega, (hns x hx).2⟩
  have hG7 := hG6.turn hy (fun q hq => by have := (hG6.lt q hq).1; (try simp at this); simp; omega)
  clear xx0 xx1 xx2 xx3 xx4 xx5 xx6 xx7 xx8 xx9 yx
  clear fx
  have hs7 := hy.size
  try simp at hs7
  have hT7 : Turn [rb] w w7 := (Turn.hold hT6).trans hy
  have hBres_7 : Bx w7 (w.heap.size) [.slice none 0 0, .int .i64 0, .slice none 0 0, .int .i64 0, .bool false, .bool false, .int .i64 0, .slice none 0 0, .slice none 0 0, .int .i64 0] := hy.bx (Bx.hold hBres_6) (by first | omega | (simp; done) | (simp; omega)) (by simp; omega)
  have hFres_7 : ∀ oo, w7.frozen? ⟨w.heap.size, oo, none⟩ = false := fun oo => (hy.frozen (by first | omega | (simp; done) | (simp; omega)) (by simp; omega)).trans ((fz_hold hFres_6) oo)
  have hBx_7 : Bx w7 (w4.heap.size) [(.slice A1 m.regs.length c1), .int .i64 m.pc, (.slice A2 m.mem.length c2), .int .i64 m.save, .bool m.lets, .bool m.waits, .int .i64 m.halt, (.slice A3 m.ins.length c3), (.slice A4 m.outs.length c4), .int .i64 m.count] := hy.bx (Bx.hold hBx_6) (by first | omega | (simp; done) | (simp; omega)) (by simp; omega)
  have hFx_7 : ∀ oo, w7.frozen? ⟨w4.heap.size, oo, none⟩ = false := fun oo => (hy.frozen (by first | omega | (simp; done) | (simp; omega)) (by simp; omega)).trans ((fz_hold hFx_6) oo)
  clear hBres_6 hFres_6 hBx_6 hFx_6
  clear hy hG6 hW6
  have yx : w4.heap.size < w7.heap.size := by omega
  have xx0 := hBx_7 0 _ rfl
  have xx1 := hBx_7 1 _ rfl
  have xx2 := hBx_7 2 _ rfl
  have xx3 := hBx_7 3 _ rfl
  have xx4 := hBx_7 4 _ rfl
  have xx5 := hBx_7 5 _ rfl
  have xx6 := hBx_7 6 _ rfl
  have xx7 := hBx_7 7 _ rfl
  have xx8 := hBx_7 8 _ rfl
  have xx9 := hBx_7 9 _ rfl
  have fx := hFx_7
  refine Plan.tail_step ?_
  simp only [List.drop_succ_cons, List.drop_zero]
  clear hSx
  have s1 := s1.keep (S' := Old w7) (fun _ _ _ => rfl) (fun b hb => (hns b hb).1)
  have s2 := s2.keep (S' := Old w7) (fun _ _ _ => rfl) (fun b hb => (hns b hb).1)
  have s3 := s3.keep (S' := Old w7) (fun _ _ _ => rfl) (fun b hb => (hns b hb).1)
  have s4 := s4.keep (S' := Old w7) (fun _ _ _ => rfl) (fun b hb => (hns b hb).1)
  have hRO := mRun_ok l6 hk ln (show n ≤ 400 by omega)
  have hRO2 := hide hRO
  clear hRO
  have h1l := hk.rl
  have h2l := hk.ml
  have H1 := hide h1l
  have H2 := hide h2l
  clear h1l h2l hk hns
  go_wp2_with fail
  refine (specMchRun_p m l6 n _ _ _ _ _ _ s1 s2 s3 s4 hG7.sl (by have := H1.out; omega) (by have := H2.out; omega) (by omega) (by have := HO.out; omega) (by have := HO.out; omega)).mono ?_
  intro e w8 hrp
  unfold RunPostC at hrp
  obtain ⟨r1, r2, r3, r4, rfl, hO, hy⟩ := hrp
  have hRO := hRO2.out
  have hk := hRO.1
  have hzi : (mRun m l6 n).ins.length ≤ 4 := by omega
  have hzo : (mRun m l6 n).outs.length ≤ 60 := by have := HO.out; omega
  clear hRO hRO2 HO H1 H2 s1 s2 s3 s4
  generalize mRun m l6 n = z at *
  obtain ⟨A1z, A2z, A3z, A4z, c1z, c2z, c3z, c4z, rfl, rfl, rfl, rfl⟩ := hO.form
  clear xx0 xx1 xx2 xx3 xx4 xx5 xx6 xx7 xx8 xx9 yx
  clear fx
  have hs8 := hy.size
  try simp at hs8
  have hT8 : Turn [rb] w w8 := (Turn.hold hT7).call hy
  have hR8 := (Rdr.hold hR7).ext hy
  have hBres_8 : Bx w8 (w.heap.size) [.slice none 0 0, .int .i64 0, .slice none 0 0, .int .i64 0, .bool false, .bool false, .int .i64 0, .slice none 0 0, .slice none 0 0, .int .i64 0] := hy.bx (Bx.hold hBres_7) (by first | omega | (simp; done) | (simp; omega))
  have hFres_8 : ∀ oo, w8.frozen? ⟨w.heap.size, oo, none⟩ = false := fun oo => (hy.frozen (by first | omega | (simp; done) | (simp; omega))).trans ((fz_hold hFres_7) oo)
  have hBx_8 : Bx w8 (w4.heap.size) [(.slice A1 m.regs.length c1), .int .i64 m.pc, (.slice A2 m.mem.length c2), .int .i64 m.save, .bool m.lets, .bool m.waits, .int .i64 m.halt, (.slice A3 m.ins.length c3), (.slice A4 m.outs.length c4), .int .i64 m.count] := hy.bx (Bx.hold hBx_7) (by first | omega | (simp; done) | (simp; omega))
  have hFx_8 : ∀ oo, w8.frozen? ⟨w4.heap.size, oo, none⟩ = false := fun oo => (hy.frozen (by first | omega | (simp; done) | (simp; omega))).trans ((fz_hold hFx_7) oo)
  clear hBres_7 hFres_7 hBx_7 hFx_7
  clear hy hG7
  have yx : w4.heap.size < w8.heap.size := by omega
  have xx0 := hBx_8 0 _ rfl
  have xx1 := hBx_8 1 _ rfl
  have xx2 := hBx_8 2 _ rfl
  have xx3 := hBx_8 3 _ rfl
  have xx4 := hBx_8 4 _ rfl
  have xx5 := hBx_8 5 _ rfl
  have xx6 := hBx_8 6 _ rfl
  have xx7 := hBx_8 7 _ rfl
  have xx8 := hBx_8 8 _ rfl
  have xx9 := hBx_8 9 _ rfl
  have fx := hFx_8
  go_upto_region 3 with fail
  clear xx0 xx1 xx2 xx3 xx4 xx5 xx6 xx7 xx8 xx9 yx
  clear fx
  have hO9 := Own4C.sets10 (b := w4.heap.size) (hO.reX (X' := [rb, w4.heap.size]) (lo' := w7.heap.size) (Nat.le_refl _) (by intro x hx; simp at hx; rcases hx with rfl | rfl <;> omega)) (by simp) ((.slice A1z z.regs.length c1z)) (.int .i64 z.pc) ((.slice A2z z.mem.length c2z)) (.int .i64 z.save) (.bool z.lets) (.bool z.waits) (.int .i64 z.halt) ((.slice A3z z.ins.length c3z)) ((.slice A4z z.outs.length c4z)) (.int .i64 z.count)
  have hB9 := hBx_8.store10 rfl ((.slice A1z z.regs.length c1z)) (.int .i64 z.pc) ((.slice A2z z.mem.length c2z)) (.int .i64 z.save) (.bool z.lets) (.bool z.waits) (.int .i64 z.halt) ((.slice A3z z.ins.length c3z)) ((.slice A4z z.outs.length c4z)) (.int .i64 z.count)
  have hF9 : ∀ oo, ((((((((((w8.setCell ⟨w4.heap.size, 0, none⟩ ((.slice A1z z.regs.length c1z))).setCell ⟨w4.heap.size, 1, none⟩ (.int .i64 z.pc)).setCell ⟨w4.heap.size, 2, none⟩ ((.slice A2z z.mem.length c2z))).setCell ⟨w4.heap.size, 3, none⟩ (.int .i64 z.save)).setCell ⟨w4.heap.size, 4, none⟩ (.bool z.lets)).setCell ⟨w4.heap.size, 5, none⟩ (.bool z.waits)).setCell ⟨w4.heap.size, 6, none⟩ (.int .i64 z.halt)).setCell ⟨w4.heap.size, 7, none⟩ ((.slice A3z z.ins.length c3z))).setCell ⟨w4.heap.size, 8, none⟩ ((.slice A4z z.outs.length c4z))).setCell ⟨w4.heap.size, 9, none⟩ (.int .i64 z.count)).frozen? ⟨w4.heap.size, oo, none⟩ = false := fz_hold hFx_8
  clear hBx_8 hFx_8
  have hM9 : MBox rb w4.heap.size w7.heap.size ((((((((((w8.setCell ⟨w4.heap.size, 0, none⟩ ((.slice A1z z.regs.length c1z))).setCell ⟨w4.heap.size, 1, none⟩ (.int .i64 z.pc)).setCell ⟨w4.heap.size, 2, none⟩ ((.slice A2z z.mem.length c2z))).setCell ⟨w4.heap.size, 3, none⟩ (.int .i64 z.save)).setCell ⟨w4.heap.size, 4, none⟩ (.bool z.lets)).setCell ⟨w4.heap.size, 5, none⟩ (.bool z.waits)).setCell ⟨w4.heap.size, 6, none⟩ (.int .i64 z.halt)).setCell ⟨w4.heap.size, 7, none⟩ ((.slice A3z z.ins.length c3z))).setCell ⟨w4.heap.size, 8, none⟩ ((.slice A4z z.outs.length c4z))).setCell ⟨w4.heap.size, 9, none⟩ (.int .i64 z.count)) := ⟨z, A1z, A2z, A3z, A4z, c1z, c2z, c3z, c4z, hk, hzi, hzo, hO9, hB9, hF9⟩
  have hR9 : Rdr rb base _ ((((((((((w8.setCell ⟨w4.heap.size, 0, none⟩ ((.slice A1z z.regs.length c1z))).setCell ⟨w4.heap.size, 1, none⟩ (.int .i64 z.pc)).setCell ⟨w4.heap.size, 2, none⟩ ((.slice A2z z.mem.length c2z))).setCell ⟨w4.heap.size, 3, none⟩ (.int .i64 z.save)).setCell ⟨w4.heap.size, 4, none⟩ (.bool z.lets)).setCell ⟨w4.heap.size, 5, none⟩ (.bool z.waits)).setCell ⟨w4.heap.size, 6, none⟩ (.int .i64 z.halt)).setCell ⟨w4.heap.size, 7, none⟩ ((.slice A3z z.ins.length c3z))).setCell ⟨w4.heap.size, 8, none⟩ ((.slice A4z z.outs.length c4z))).setCell ⟨w4.heap.size, 9, none⟩ (.int .i64 z.count)) := Rdr.hold hR8
  have hT9 : Turn [rb] w ((((((((((w8.setCell ⟨w4.heap.size, 0, none⟩ ((.slice A1z z.regs.length c1z))).setCell ⟨w4.heap.size, 1, none⟩ (.int .i64 z.pc)).setCell ⟨w4.heap.size, 2, none⟩ ((.slice A2z z.mem.length c2z))).setCell ⟨w4.heap.size, 3, none⟩ (.int .i64 z.save)).setCell ⟨w4.heap.size, 4, none⟩ (.bool z.lets)).setCell ⟨w4.heap.size, 5, none⟩ (.bool z.waits)).setCell ⟨w4.heap.size, 6, none⟩ (.int .i64 z.halt)).setCell ⟨w4.heap.size, 7, none⟩ ((.slice A3z z.ins.length c3z))).setCell ⟨w4.heap.size, 8, none⟩ ((.slice A4z z.outs.length c4z))).setCell ⟨w4.heap.size, 9, none⟩ (.int .i64 z.count)) := Turn.hold hT8
  have hs9 : w8.heap.size + 0 ≤ (((((((((((w8.setCell ⟨w4.heap.size, 0, none⟩ ((.slice A1z z.regs.length c1z))).setCell ⟨w4.heap.size, 1, none⟩ (.int .i64 z.pc)).setCell ⟨w4.heap.size, 2, none⟩ ((.slice A2z z.mem.length c2z))).setCell ⟨w4.heap.size, 3, none⟩ (.int .i64 z.save)).setCell ⟨w4.heap.size, 4, none⟩ (.bool z.lets)).setCell ⟨w4.heap.size, 5, none⟩ (.bool z.waits)).setCell ⟨w4.heap.size, 6, none⟩ (.int .i64 z.halt)).setCell ⟨w4.heap.size, 7, none⟩ ((.slice A3z z.ins.length c3z))).setCell ⟨w4.heap.size, 8, none⟩ ((.slice A4z z.outs.length c4z))).setCell ⟨w4.heap.size, 9, none⟩ (.int .i64 z.count))).heap.size := by simp
  have hBres_9 : Bx ((((((((((w8.setCell ⟨w4.heap.size, 0, none⟩ ((.slice A1z z.regs.length c1z))).setCell ⟨w4.heap.size, 1, none⟩ (.int .i64 z.pc)).setCell ⟨w4.heap.size, 2, none⟩ ((.slice A2z z.mem.length c2z))).setCell ⟨w4.heap.size, 3, none⟩ (.int .i64 z.save)).setCell ⟨w4.heap.size, 4, none⟩ (.bool z.lets)).setCell ⟨w4.heap.size, 5, none⟩ (.bool z.waits)).setCell ⟨w4.heap.size, 6, none⟩ (.int .i64 z.halt)).setCell ⟨w4.heap.size, 7, none⟩ ((.slice A3z z.ins.length c3z))).setCell ⟨w4.heap.size, 8, none⟩ ((.slice A4z z.outs.length c4z))).setCell ⟨w4.heap.size, 9, none⟩ (.int .i64 z.count)) (w.heap.size) [.slice none 0 0, .int .i64 0, .slice none 0 0, .int .i64 0, .bool false, .bool false, .int .i64 0, .slice none 0 0, .slice none 0 0, .int .i64 0] := Bx.hold hBres_8
  have hFres_9 : ∀ oo, ((((((((((w8.setCell ⟨w4.heap.size, 0, none⟩ ((.slice A1z z.regs.length c1z))).setCell ⟨w4.heap.size, 1, none⟩ (.int .i64 z.pc)).setCell ⟨w4.heap.size, 2, none⟩ ((.slice A2z z.mem.length c2z))).setCell ⟨w4.heap.size, 3, none⟩ (.int .i64 z.save)).setCell ⟨w4.heap.size, 4, none⟩ (.bool z.lets)).setCell ⟨w4.heap.size, 5, none⟩ (.bool z.waits)).setCell ⟨w4.heap.size, 6, none⟩ (.int .i64 z.halt)).setCell ⟨w4.heap.size, 7, none⟩ ((.slice A3z z.ins.length c3z))).setCell ⟨w4.heap.size, 8, none⟩ ((.slice A4z z.outs.length c4z))).setCell ⟨w4.heap.size, 9, none⟩ (.int .i64 z.count)).frozen? ⟨w.heap.size, oo, none⟩ = false := fz_hold hFres_8
  generalize ((((((((((w8.setCell ⟨w4.heap.size, 0, none⟩ ((.slice A1z z.regs.length c1z))).setCell ⟨w4.heap.size, 1, none⟩ (.int .i64 z.pc)).setCell ⟨w4.heap.size, 2, none⟩ ((.slice A2z z.mem.length c2z))).setCell ⟨w4.heap.size, 3, none⟩ (.int .i64 z.save)).setCell ⟨w4.heap.size, 4, none⟩ (.bool z.lets)).setCell ⟨w4.heap.size, 5, none⟩ (.bool z.waits)).setCell ⟨w4.heap.size, 6, none⟩ (.int .i64 z.halt)).setCell ⟨w4.heap.size, 7, none⟩ ((.slice A3z z.ins.length c3z))).setCell ⟨w4.heap.size, 8, none⟩ ((.slice A4z z.outs.length c4z))).setCell ⟨w4.heap.size, 9, none⟩ (.int .i64 z.count)) = w9 at *
  clear hBres_8 hFres_8
  clear hO hO9 hB9 hF9 hzi hzo hk
  have yx : w4.heap.size < w9.heap.size := by omega
  have nx : rb ≠ w4.heap.size := by omega
  have hlx : w4.heap.size < w7.heap.size := by omega
  have hl9 : w7.heap.size ≤ w9.heap.size := by omega
  have HX := hide (show w.heap.size ≤ w4.heap.size by omega)
  generalize hxb : w4.heap.size = xb at *
  generalize hlo : w7.heap.size = lo at *
  have hwx : w.heap.size < xb := by omega
  clear hxb hlo HX
  go_wp2_with fail
  refine (pick_any rb base _ _ (Rdr.hold hR9) (by omega) 4 (by omega) (by omega)).mono ?_
  rintro e w10 ⟨⟨v, rfl, lv, qv⟩, hR10, hy⟩
  have hM10 := hM9.turn hy (by omega) nx
  have hs10 := hy.size
  try simp at hs10
  have hT10 : Turn [rb] w w10 := (Turn.hold hT9).trans hy
  have hBres_10 : Bx w10 (w.heap.size) [.slice none 0 0, .int .i64 0, .slice none 0 0, .int .i64 0, .bool false, .bool false, .int .i64 0, .slice none 0 0, .slice none 0 0, .int .i64 0] := hy.bx (Bx.hold hBres_9) (by first | omega | (simp; done) | (simp; omega)) (by simp; omega)
  have hFres_10 : ∀ oo, w10.frozen? ⟨w.heap.size, oo, none⟩ = false := fun oo => (hy.frozen (by first | omega | (simp; done) | (simp; omega)) (by simp; omega)).trans ((fz_hold hFres_9) oo)
  clear hBres_9 hFres_9
  clear hy hM9
  have yx : xb < w10.heap.size := by omega
  go_upto_if 19 with fail
  go_cut [] (fun wx => MBox rb xb lo wx ∧ Bx wx (w.heap.size) [.slice none 0 0, .int .i64 0, .slice none 0 0, .int .i64 0, .bool false, .bool false, .int .i64 0, .slice none 0 0, .slice none 0 0, .int .i64 0] ∧ (∀ oo, wx.frozen? ⟨w.heap.size, oo, none⟩ = false) ∧ lo ≤ wx.heap.size ∧ Rdr rb base (P + 2100) wx ∧ Turn [rb] w wx)
  case first =>
    by_cases h0 : v = 0
    rotate_left
    · 
      have q1 : (v == 0) = false := by simp [h0]
      clear h0
      go_wp2_with fail
      go_meet
      exact ⟨hM10, hBres_10, hFres_10, by omega, hR10.up (by omega), hT10⟩
    have q1 : (v == 0) = true := by simp [h0]
    clear h0
    unfold MBox at hM10
    obtain ⟨m, A1, A2, A3, A4, c1, c2, c3, c4, hk, hi, ho, hO, hBx, hFx⟩ := hM10
    have xx0 := hBx 0 _ rfl
    have xx1 := hBx 1 _ rfl
    have xx2 := hBx 2 _ rfl
    have xx3 := hBx 3 _ rfl
    have xx4 := hBx 4 _ rfl
    have xx5 := hBx 5 _ rfl
    have xx6 := hBx 6 _ rfl
    have xx7 := hBx 7 _ rfl
    have xx8 := hBx 8 _ rfl
    have xx9 := hBx 9 _ rfl
    have fx := hFx
    go_wp2_with fail
    refine (l20Words_any rb base _ _ (Rdr.hold hR10) (by omega) 4 (by omega) (by omega)).mono ?_
    rintro e w11 ⟨⟨v, rfl, l, hG, hl, hlw⟩, hR11, hy⟩
    have hll : l.length = 4 := by omega
    have HL := hide hll
    obtain ⟨A1n, c1n, rfl, -, -⟩ := hG.form
    have hOn := hO.setRegs hy (by simp) hG (Nat.le_refl _) (by omega) (by intro x hx; simp at hx; rcases hx with rfl | rfl <;> omega)
    have hBx2 := hy.bx hBx (by omega) (by simpa using nx.symm)
    have hFx2 : ∀ oo, w11.frozen? ⟨xb, oo, none⟩ = false := fun oo => (hy.frozen (by omega) (by simpa using nx.symm)).trans (hFx oo)
    clear hl hll xx0 xx1 xx2 xx3 xx4 xx5 xx6 xx7 xx8 xx9 fx
    have hs11 := hy.size
    try simp at hs11
    have hT11 : Turn [rb] w w11 := (Turn.hold hT10).trans hy
    have hBres_11 : Bx w11 (w.heap.size) [.slice none 0 0, .int .i64 0, .slice none 0 0, .int .i64 0, .bool false, .bool false, .int .i64 0, .slice none 0 0, .slice none 0 0, .int .i64 0] := hy.bx (Bx.hold hBres_10) (by first | omega | (simp; done) | (simp; omega)) (by simp; omega)
    have hFres_11 : ∀ oo, w11.frozen? ⟨w.heap.size, oo, none⟩ = false := fun oo => (hy.frozen (by first | omega | (simp; done) | (simp; omega)) (by simp; omega)).trans ((fz_hold hFres_10) oo)
    clear hBres_10 hFres_10
    have xx0 := hBx2 0 _ rfl
    have xx1 := hBx2 1 _ rfl
    have xx2 := hBx2 2 _ rfl
    have xx3 := hBx2 3 _ rfl
    have xx4 := hBx2 4 _ rfl
    have xx5 := hBx2 5 _ rfl
    have xx6 := hBx2 6 _ rfl
    have xx7 := hBx2 7 _ rfl
    have xx8 := hBx2 8 _ rfl
    have xx9 := hBx2 9 _ rfl
    have fx := hFx2
    have yx : xb < w11.heap.size := by omega
    go_wp2_with fail
    have hBn : Bx (w11.setCell ⟨xb, 0, none⟩ (.slice A1n l.length c1n)) xb [.slice A1n l.length c1n, .int .i64 m.pc, (.slice A2 m.mem.length c2), .int .i64 m.save, .bool m.lets, .bool m.waits, .int .i64 m.halt, (.slice A3 m.ins.length c3), (.slice A4 m.outs.length c4), .int .i64 m.count] := by have := Bx.put hBx2 (j := 0) (by simp) (.slice A1n l.length c1n); simpa using this
    have hMn : MBox rb xb lo (w11.setCell ⟨xb, 0, none⟩ (.slice A1n l.length c1n)) := ⟨{ m with regs := l }, A1n, A2, A3, A4, c1n, c2, c3, c4, hk.regs' HL.out hlw, hi, ho, hOn.far (by simp) _, hBn, fz_hold hFx2⟩
    go_meet
    exact ⟨hMn, Bx.hold hBres_11, fz_hold hFres_11, by (try simp); omega, (Rdr.hold hR11).up (by omega), Turn.hold hT11⟩
  case rest =>
    obtain ⟨hM11, hBres_11, hFres_11, hlw11, hR11, hT11⟩ := hcut
    obtain ⟨w11, hwc⟩ : ∃ w11 : World, w11 = wc := ⟨_, rfl⟩
    subst hwc
    clear hM10 hBres_10 hFres_10
    have hs11 : w.heap.size < w11.heap.size := by omega
    have yx : xb < w11.heap.size := by omega
    go_wp2_with fail
    refine (pick_any rb base _ _ (Rdr.hold hR11) (by omega) 6 (by omega) (by omega)).mono ?_
    rintro e w12 ⟨⟨v, rfl, lv, qv⟩, hR12, hy⟩
    have hM12 := hM11.turn hy (by omega) nx
    have hs12 := hy.size
    try simp at hs12
    have hT12 : Turn [rb] w w12 := (Turn.hold hT11).trans hy
    have hBres_12 : Bx w12 (w.heap.size) [.slice none 0 0, .int .i64 0, .slice none 0 0, .int .i64 0, .bool false, .bool false, .int .i64 0, .slice none 0 0, .slice none 0 0, .int .i64 0] := hy.bx (Bx.hold hBres_11) (by first | omega | (simp; done) | (simp; omega)) (by simp; omega)
    have hFres_12 : ∀ oo, w12.frozen? ⟨w.heap.size, oo, none⟩ = false := fun oo => (hy.frozen (by first | omega | (simp; done) | (simp; omega)) (by simp; omega)).trans ((fz_hold hFres_11) oo)
    clear hBres_11 hFres_11
    clear hy hM11
    have yx : xb < w12.heap.size := by omega
    go_upto_if 25 with fail
    go_cut [] (fun wx => MBox rb xb lo wx ∧ Bx wx (w.heap.size) [.slice none 0 0, .int .i64 0, .slice none 0 0, .int .i64 0, .bool false, .bool false, .int .i64 0, .slice none 0 0, .slice none 0 0, .int .i64 0] ∧ (∀ oo, wx.frozen? ⟨w.heap.size, oo, none⟩ = false) ∧ lo ≤ wx.heap.size ∧ Rdr rb base (P + 2102) wx ∧ Turn [rb] w wx)
    case first =>
      by_cases h0 : v = 0
      rotate_left
      · 
        have q1 : (v == 0) = false := by simp [h0]
        clear h0
        go_wp2_with fail
        go_meet
        exact ⟨hM12, hBres_12, hFres_12, by omega, hR12.up (by omega), hT12⟩
      have q1 : (v == 0) = true := by simp [h0]
      clear h0
      unfold MBox at hM12
      obtain ⟨m, A1, A2, A3, A4, c1, c2, c3, c4, hk, hi, ho, hO, hBx, hFx⟩ := hM12
      have xx0 := hBx 0 _ rfl
      have xx1 := hBx 1 _ rfl
      have xx2 := hBx 2 _ rfl
      have xx3 := hBx 3 _ rfl
      have xx4 := hBx 4 _ rfl
      have xx5 := hBx 5 _ rfl
      have xx6 := hBx 6 _ rfl
      have xx7 := hBx 7 _ rfl
      have xx8 := hBx 8 _ rfl
      have xx9 := hBx 9 _ rfl
      have fx := hFx
      go_upto_region 7 with fail
      have hBx1 : Bx (w12.setCell ⟨xb, 6, none⟩ (.int .i64 0)) xb [(.slice A1 m.regs.length c1), .int .i64 m.pc, (.slice A2 m.mem.length c2), .int .i64 m.save, .bool m.lets, .bool m.waits, .int .i64 0, (.slice A3 m.ins.length c3), (.slice A4 m.outs.length c4), .int .i64 m.count] := by have := Bx.put hBx (j := 6) (by simp) (.int .i64 0); simpa using this
      have hO1 := hO.far (p := ⟨xb, 6, none⟩) (by simp) (.int .i64 0)
      have hFx1 : ∀ oo, (w12.setCell ⟨xb, 6, none⟩ (.int .i64 0)).frozen? ⟨xb, oo, none⟩ = false := fz_hold hFx
      clear hO hBx hFx fx xx0 xx1 xx2 xx3 xx4 xx5 xx6 xx7 xx8 xx9
      have hR13 : Rdr rb base _ (w12.setCell ⟨xb, 6, none⟩ (.int .i64 0)) := Rdr.hold hR12
      have hT13 : Turn [rb] w (w12.setCell ⟨xb, 6, none⟩ (.int .i64 0)) := Turn.hold hT12
      have hs13 : w12.heap.size + 0 ≤ ((w12.setCell ⟨xb, 6, none⟩ (.int .i64 0))).heap.size := by simp
      have hBres_13 : Bx (w12.setCell ⟨xb, 6, none⟩ (.int .i64 0)) (w.heap.size) [.slice none 0 0, .int .i64 0, .slice none 0 0, .int .i64 0, .bool false, .bool false, .int .i64 0, .slice none 0 0, .slice none 0 0, .int .i64 0] := Bx.hold hBres_12
      have hFres_13 : ∀ oo, (w12.setCell ⟨xb, 6, none⟩ (.int .i64 0)).frozen? ⟨w.heap.size, oo, none⟩ = false := fz_hold hFres_12
      generalize (w12.setCell ⟨xb, 6, none⟩ (.int .i64 0)) = w13 at *
      clear hBres_12 hFres_12
      have yx : xb < w13.heap.size := by omega
      go_wp2_with fail
      refine (pick_any rb base _ _ (Rdr.hold hR13) (by omega) 66 (by omega) (by omega)).mono ?_
      rintro e w14 ⟨⟨n, rfl, ln, qn⟩, hR14, hy⟩
      have un : n < 66 := by omega
      clear qn
      have hO2 := hO1.turn hy (by simp)
      have hBx2 := hy.bx hBx1 (by omega) (by simpa using nx.symm)
      have hFx2 : ∀ oo, w14.frozen? ⟨xb, oo, none⟩ = false := fun oo => (hy.frozen (by omega) (by simpa using nx.symm)).trans (hFx1 oo)
      have hs14 := hy.size
      try simp at hs14
      have hT14 : Turn [rb] w w14 := (Turn.hold hT13).trans hy
      have hBres_14 : Bx w14 (w.heap.size) [.slice none 0 0, .int .i64 0, .slice none 0 0, .int .i64 0, .bool false, .bool false, .int .i64 0, .slice none 0 0, .slice none 0 0, .int .i64 0] := hy.bx (Bx.hold hBres_13) (by first | omega | (simp; done) | (simp; omega)) (by simp; omega)
      have hFres_14 : ∀ oo, w14.frozen? ⟨w.heap.size, oo, none⟩ = false := fun oo => (hy.frozen (by first | omega | (simp; done) | (simp; omega)) (by simp; omega)).trans ((fz_hold hFres_13) oo)
      clear hBres_13 hFres_13
      have xx0 := hBx2 0 _ rfl
      have xx1 := hBx2 1 _ rfl
      have xx2 := hBx2 2 _ rfl
      have xx3 := hBx2 3 _ rfl
      have xx4 := hBx2 4 _ rfl
      have xx5 := hBx2 5 _ rfl
      have xx6 := hBx2 6 _ rfl
      have xx7 := hBx2 7 _ rfl
      have xx8 := hBx2 8 _ rfl
      have xx9 := hBx2 9 _ rfl
      have fx := hFx2
      have yx : xb < w14.heap.size := by omega
      go_wp2_with fail
      have hBn : Bx (w14.setCell ⟨xb, 1, none⟩ (.int .i64 n)) xb [(.slice A1 m.regs.length c1), .int .i64 n, (.slice A2 m.mem.length c2), .int .i64 m.save, .bool m.lets, .bool m.waits, .int .i64 0, (.slice A3 m.ins.length c3), (.slice A4 m.outs.length c4), .int .i64 m.count] := by have := Bx.put hBx2 (j := 1) (by simp) (.int .i64 n); simpa using this
      have hMn : MBox rb xb lo (w14.setCell ⟨xb, 1, none⟩ (.int .i64 n)) := ⟨{ m with halt := 0, pc := n }, A1, A2, A3, A4, c1, c2, c3, c4, (hk.halt (n := 0) (by omega) (by omega)).pc' ln (by omega), hi, ho, (hO2.far (by simp) _).same rfl rfl rfl rfl, hBn, fz_hold hFx2⟩
      go_meet
      exact ⟨hMn, Bx.hold hBres_14, fz_hold hFres_14, by (try simp); omega, (Rdr.hold hR14).up (by omega), Turn.hold hT14⟩
    case rest =>
      obtain ⟨hM13, hBres_13, hFres_13, hlw13, hR13, hT13⟩ := hcut
      obtain ⟨w13, hwc⟩ : ∃ w13 : World, w13 = wc := ⟨_, rfl⟩
      subst hwc
      clear hM12 hBres_12 hFres_12
      have hs13 : w.heap.size < w13.heap.size := by omega
      have yx : xb < w13.heap.size := by omega
      go_wp2_with fail
      refine (odd_any rb base _ _ (Rdr.hold hR13) (by omega) 9 (by omega) (by omega)).mono ?_
      rintro e w14 ⟨⟨b, rfl⟩, hR14, hy⟩
      have hM14 := hM13.turn hy (by omega) nx
      have hs14 := hy.size
      try simp at hs14
      have hT14 : Turn [rb] w w14 := (Turn.hold hT13).trans hy
      have hBres_14 : Bx w14 (w.heap.size) [.slice none 0 0, .int .i64 0, .slice none 0 0, .int .i64 0, .bool false, .bool false, .int .i64 0, .slice none 0 0, .slice none 0 0, .int .i64 0] := hy.bx (Bx.hold hBres_13) (by first | omega | (simp; done) | (simp; omega)) (by simp; omega)
      have hFres_14 : ∀ oo, w14.frozen? ⟨w.heap.size, oo, none⟩ = false := fun oo => (hy.frozen (by first | omega | (simp; done) | (simp; omega)) (by simp; omega)).trans ((fz_hold hFres_13) oo)
      clear hBres_13 hFres_13
      clear hy hM13
      have yx : xb < w14.heap.size := by omega
      go_upto_if 31 with fail
      go_cut [] (fun wx => MBox rb xb lo wx ∧ Bx wx (w.heap.size) [.slice none 0 0, .int .i64 0, .slice none 0 0, .int .i64 0, .bool false, .bool false, .int .i64 0, .slice none 0 0, .slice none 0 0, .int .i64 0] ∧ (∀ oo, wx.frozen? ⟨w.heap.size, oo, none⟩ = false) ∧ lo ≤ wx.heap.size ∧ Rdr rb base (P + 2103) wx ∧ Turn [rb] w wx)
      case first =>
        cases b
        · 
          
          go_wp2_with fail
          go_meet
          exact ⟨hM14, hBres_14, hFres_14, by omega, hR14.up (by omega), hT14⟩
        skip
        unfold MBox at hM14
        obtain ⟨m, A1, A2, A3, A4, c1, c2, c3, c4, hk, hi, ho, hO, hBx, hFx⟩ := hM14
        have xx0 := hBx 0 _ rfl
        have xx1 := hBx 1 _ rfl
        have xx2 := hBx 2 _ rfl
        have xx3 := hBx 3 _ rfl
        have xx4 := hBx 4 _ rfl
        have xx5 := hBx 5 _ rfl
        have xx6 := hBx 6 _ rfl
        have xx7 := hBx 7 _ rfl
        have xx8 := hBx 8 _ rfl
        have xx9 := hBx 9 _ rfl
        have fx := hFx
        go_wp2_with fail
        have hBn : Bx (w14.setCell ⟨xb, 5, none⟩ (.bool true)) xb [(.slice A1 m.regs.length c1), .int .i64 m.pc, (.slice A2 m.mem.length c2), .int .i64 m.save, .bool m.lets, .bool true, .int .i64 m.halt, (.slice A3 m.ins.length c3), (.slice A4 m.outs.length c4), .int .i64 m.count] := (by have := Bx.put hBx (j := 5) (by simp) (.bool true); simpa using this : Bx _ xb [(.slice A1 m.regs.length c1), .int .i64 m.pc, (.slice A2 m.mem.length c2), .int .i64 m.save, .bool m.lets, .bool true, .int .i64 m.halt, (.slice A3 m.ins.length c3), (.slice A4 m.outs.length c4), .int .i64 m.count])
        have hMn : MBox rb xb lo (w14.setCell ⟨xb, 5, none⟩ (.bool true)) := ⟨{ m with waits := true }, A1, A2, A3, A4, c1, c2, c3, c4, hk.waits' true, hi, ho, (hO.far (by simp) _).same rfl rfl rfl rfl, hBn, fz_hold hFx⟩
        go_meet
        exact ⟨hMn, Bx.hold hBres_14, fz_hold hFres_14, by (try simp); omega, (Rdr.hold hR14).up (by omega), Turn.hold hT14⟩
      case rest =>
        obtain ⟨hM15, hBres_15, hFres_15, hlw15, hR15, hT15⟩ := hcut
        obtain ⟨w15, hwc⟩ : ∃ w15 : World, w15 = wc := ⟨_, rfl⟩
        subst hwc
        clear hM14 hBres_14 hFres_14
        have hs15 : w.heap.size < w15.heap.size := by omega
        have yx : xb < w15.heap.size := by omega
        go_wp2_with fail
        refine (odd_any rb base _ _ (Rdr.hold hR15) (by omega) 9 (by omega) (by omega)).mono ?_
        rintro e w16 ⟨⟨b, rfl⟩, hR16, hy⟩
        have hM16 := hM15.turn hy (by omega) nx
        have hs16 := hy.size
        try simp at hs16
        have hT16 : Turn [rb] w w16 := (Turn.hold hT15).trans hy
        have hBres_16 : Bx w16 (w.heap.size) [.slice none 0 0, .int .i64 0, .slice none 0 0, .int .i64 0, .bool false, .bool false, .int .i64 0, .slice none 0 0, .slice none 0 0, .int .i64 0] := hy.bx (Bx.hold hBres_15) (by first | omega | (simp; done) | (simp; omega)) (by simp; omega)
        have hFres_16 : ∀ oo, w16.frozen? ⟨w.heap.size, oo, none⟩ = false := fun oo => (hy.frozen (by first | omega | (simp; done) | (simp; omega)) (by simp; omega)).trans ((fz_hold hFres_15) oo)
        clear hBres_15 hFres_15
        clear hy hM15
        have yx : xb < w16.heap.size := by omega
        go_upto_if 34 with fail
        go_cut [] (fun wx => MBox rb xb lo wx ∧ Bx wx (w.heap.size) [.slice none 0 0, .int .i64 0, .slice none 0 0, .int .i64 0, .bool false, .bool false, .int .i64 0, .slice none 0 0, .slice none 0 0, .int .i64 0] ∧ (∀ oo, wx.frozen? ⟨w.heap.size, oo, none⟩ = false) ∧ lo ≤ wx.heap.size ∧ Rdr rb base (P + 2104) wx ∧ Turn [rb] w wx)
        case first =>
          cases b
          · 
            
            go_wp2_with fail
            go_meet
            exact ⟨hM16, hBres_16, hFres_16, by omega, hR16.up (by omega), hT16⟩
          skip
          unfold MBox at hM16
          obtain ⟨m, A1, A2, A3, A4, c1, c2, c3, c4, hk, hi, ho, hO, hBx, hFx⟩ := hM16
          have xx0 := hBx 0 _ rfl
          have xx1 := hBx 1 _ rfl
          have xx2 := hBx 2 _ rfl
          have xx3 := hBx 3 _ rfl
          have xx4 := hBx 4 _ rfl
          have xx5 := hBx 5 _ rfl
          have xx6 := hBx 6 _ rfl
          have xx7 := hBx 7 _ rfl
          have xx8 := hBx 8 _ rfl
          have xx9 := hBx 9 _ rfl
          have fx := hFx
          go_wp2_with fail
          have hBn : Bx (w16.setCell ⟨xb, 4, none⟩ (.bool (!m.lets))) xb [(.slice A1 m.regs.length c1), .int .i64 m.pc, (.slice A2 m.mem.length c2), .int .i64 m.save, .bool (!m.lets), .bool m.waits, .int .i64 m.halt, (.slice A3 m.ins.length c3), (.slice A4 m.outs.length c4), .int .i64 m.count] := (by have := Bx.put hBx (j := 4) (by simp) (.bool (!m.lets)); simpa using this : Bx _ xb [(.slice A1 m.regs.length c1), .int .i64 m.pc, (.slice A2 m.mem.length c2), .int .i64 m.save, .bool (!m.lets), .bool m.waits, .int .i64 m.halt, (.slice A3 m.ins.length c3), (.slice A4 m.outs.length c4), .int .i64 m.count])
          have hMn : MBox rb xb lo (w16.setCell ⟨xb, 4, none⟩ (.bool (!m.lets))) := ⟨{ m with lets := !m.lets }, A1, A2, A3, A4, c1, c2, c3, c4, hk.lets _, hi, ho, (hO.far (by simp) _).same rfl rfl rfl rfl, hBn, fz_hold hFx⟩
          go_meet
          exact ⟨hMn, Bx.hold hBres_16, fz_hold hFres_16, by (try simp); omega, (Rdr.hold hR16).up (by omega), Turn.hold hT16⟩
        case rest =>
          obtain ⟨hM17, hBres_17, hFres_17, hlw17, hR17, hT17⟩ := hcut
          obtain ⟨w17, hwc⟩ : ∃ w17 : World, w17 = wc := ⟨_, rfl⟩
          subst hwc
          clear hM16 hBres_16 hFres_16
          have hs17 : w.heap.size < w17.heap.size := by omega
          have yx : xb < w17.heap.size := by omega
          unfold MBox at hM17
          obtain ⟨m, A1, A2, A3, A4, c1, c2, c3, c4, hk, hi, ho, hO, hBx, hFx⟩ := hM17
          have xx0 := hBx 0 _ rfl
          have xx1 := hBx 1 _ rfl
          have xx2 := hBx 2 _ rfl
          have xx3 := hBx 3 _ rfl
          have xx4 := hBx 4 _ rfl
          have xx5 := hBx 5 _ rfl
          have xx6 := hBx 6 _ rfl
          have xx7 := hBx 7 _ rfl
          have xx8 := hBx 8 _ rfl
          have xx9 := hBx 9 _ rfl
          have fx := hFx
          have yres : w.heap.size < w17.heap.size := by omega
          have xres0 := hBres_17 0 _ rfl
          have xres1 := hBres_17 1 _ rfl
          have xres2 := hBres_17 2 _ rfl
          have xres3 := hBres_17 3 _ rfl
          have xres4 := hBres_17 4 _ rfl
          have xres5 := hBres_17 5 _ rfl
          have xres6 := hBres_17 6 _ rfl
          have xres7 := hBres_17 7 _ rfl
          have xres8 := hBres_17 8 _ rfl
          have xres9 := hBres_17 9 _ rfl
          have fres := hFres_17
          go_wp2
          refine bodyPost_ret (v := .agg #[(.slice A1 m.regs.length c1), .int .i64 m.pc, (.slice A2 m.mem.length c2), .int .i64 m.save, .bool m.lets, .bool m.waits, .int .i64 m.halt, (.slice A3 m.ins.length c3), (.slice A4 m.outs.length c4), .int .i64 m.count]) (by simp [results, Tryd.results96, go_sem, xres0, xres1, xres2, xres3, xres4, xres5, xres6, xres7, xres8, xres9]) rfl ?_
          unfold MachPost
          refine ⟨⟨m, A1, A2, A3, A4, c1, c2, c3, c4, rfl, hk, hi, ho, ?_⟩, (Rdr.hold hR17).up (by omega), Turn.hold hT17⟩
          refine Own4C.reX (X := [rb]) (lo := lo) ?_ (by omega) (by simp; omega)
          repeat (refine Own4C.low ?_ (by first | (show _ < _; omega) | (simp; omega)) _)
          exact hO.sub (by simp)

end Go.Proofs.YtokibcicoomceaaDoor
