/-
  A machine, ok or not, is drawn.
-/
import Derived.Test.YtokibcicoomceaaDoorDrawM
import Derived.Deep.DeepCutAuto
namespace Go.Proofs.YtokibcicoomceaaDoor
open Go.RowKit

set_option linter.unusedVariables false
set_option linter.unusedSimpArgs false
set_option maxRecDepth 100000

/-- Blocks behind a place, but one. -/
def In (lo xb : Nat) (w : World) : Nat → Prop := fun b => lo ≤ b ∧ b < w.heap.size ∧ b ≠ xb
theorem Own4C.regsApart {e lo : Nat} {X : List Nat} {w : World} {r1 r2 r3 r4 : Value} {m : MchMach} (h : Own4C e X lo w r1 r2 r3 r4 m) (hl : m.regs.length = 4) {xb : Nat} (hx : xb ∈ X) : Gro e lo w r1 m.regs ∧ (∀ q, r1.ownBlock = some q → lo ≤ q ∧ q < w.heap.size ∧ q ∉ X) ∧ ∀ w', Turn r1.ownBlock.toList w w' → Sl w' (In lo xb w') r2 m.mem ∧ Sl w' (In lo xb w') r3 m.ins ∧ Sl w' (In lo xb w') r4 m.outs := by
  obtain ⟨F1, F2, F3, F4, h1, h2, h3, h4, hn, hb, c1, c4, a1, a4⟩ := h
  refine ⟨Gro.of_own h1 c1 (fun q hq => (a1 q hq).1), a1, fun w' k => ?_⟩
  have hne : m.regs ≠ [] := fun q => by rw [q] at hl; simp at hl
  have hF : ∀ q, r1.ownBlock = some q → q ∈ F1 := fun q hq => by
    obtain ⟨A', c', q1, q2, q3, q0, q4, q5⟩ := h1
    obtain ⟨b, off, Gs, e', rfl, _⟩ := q5 hne
    rw [q1, e'] at hq
    simp [Value.ownBlock] at hq
    simp [hq]
  have hn2 : (F1 ++ (F2 ++ F3 ++ F4)).Nodup := by simpa [List.append_assoc] using hn
  have hd := (List.nodup_append.1 hn2).2.2
  have st : ∀ b, b ∈ F2 ++ F3 ++ F4 → w'.heap[b]? = w.heap[b]? := fun b hm => k.block b (hb b (by
    rcases List.mem_append.1 hm with hm | hm
    · rcases List.mem_append.1 hm with hm | hm <;> simp [hm]
    · simp [hm])).2.1 (fun hq => hd b (hF b (by simpa using hq)) b hm rfl)
  have up : ∀ b, b ∈ F1 ++ F2 ++ F3 ++ F4 → In lo xb w' b := fun b hm => ⟨(hb b hm).1, Nat.lt_of_lt_of_le (hb b hm).2.1 k.size, fun e => (hb b hm).2.2 (e ▸ hx)⟩
  exact ⟨(h2.stay (fun b hm => st b (by simp [hm]))).sl.keep (fun _ _ _ => rfl) (fun b hm => up b (by simp [hm])), (h3.stay (fun b hm => st b (by simp [hm]))).sl.keep (fun _ _ _ => rfl) (fun b hm => up b (by simp [hm])), (h4.stay (fun b hm => st b (by simp [hm]))).sl.keep (fun _ _ _ => rfl) (fun b hm => up b (by simp [hm]))⟩
theorem Own4C.outsApart {e lo : Nat} {X : List Nat} {w : World} {r1 r2 r3 r4 : Value} {m : MchMach} (h : Own4C e X lo w r1 r2 r3 r4 m) {xb : Nat} (hx : xb ∈ X) : Gro e lo w r4 m.outs ∧ (∀ q, r4.ownBlock = some q → lo ≤ q ∧ q < w.heap.size ∧ q ∉ X) ∧ ∀ w', Turn r4.ownBlock.toList w w' → Sl w' (In lo xb w') r1 m.regs ∧ Sl w' (In lo xb w') r2 m.mem ∧ Sl w' (In lo xb w') r3 m.ins := by
  obtain ⟨F1, F2, F3, F4, h1, h2, h3, h4, hn, hb, c1, c4, a1, a4⟩ := h
  refine ⟨Gro.of_own h4 c4 (fun q hq => (a4 q hq).1), fun q hq => ⟨(a4 q hq).1, (a4 q hq).2.1, (a4 q hq).2.2.1⟩, fun w' k => ?_⟩
  have st : ∀ b, b ∈ F1 ++ F2 ++ F3 → w'.heap[b]? = w.heap[b]? := fun b hm => k.block b (hb b (by
    rcases List.mem_append.1 hm with hm | hm
    · rcases List.mem_append.1 hm with hm | hm <;> simp [hm]
    · simp [hm])).2.1 (fun hq => (a4 b (by simpa using hq)).2.2.2 hm)
  have up : ∀ b, b ∈ F1 ++ F2 ++ F3 ++ F4 → In lo xb w' b := fun b hm => ⟨(hb b hm).1, Nat.lt_of_lt_of_le (hb b hm).2.1 k.size, fun e => (hb b hm).2.2 (e ▸ hx)⟩
  exact ⟨(h1.stay (fun b hm => st b (by simp [hm]))).sl.keep (fun _ _ _ => rfl) (fun b hm => up b (by simp [hm])), (h2.stay (fun b hm => st b (by simp [hm]))).sl.keep (fun _ _ _ => rfl) (fun b hm => up b (by simp [hm])), (h3.stay (fun b hm => st b (by simp [hm]))).sl.keep (fun _ _ _ => rfl) (fun b hm => up b (by simp [hm]))⟩
theorem Own4C.slIn {e lo : Nat} {X : List Nat} {w : World} {r1 r2 r3 r4 : Value} {m : MchMach} (h : Own4C e X lo w r1 r2 r3 r4 m) {xb : Nat} (hx : xb ∈ X) : Sl w (In lo xb w) r1 m.regs ∧ Sl w (In lo xb w) r2 m.mem ∧ Sl w (In lo xb w) r3 m.ins ∧ Sl w (In lo xb w) r4 m.outs := by
  obtain ⟨F1, F2, F3, F4, h1, h2, h3, h4, hn, hb, c1, c4, a1, a4⟩ := h
  have up : ∀ b, b ∈ F1 ++ F2 ++ F3 ++ F4 → In lo xb w b := fun b hm => ⟨(hb b hm).1, (hb b hm).2.1, fun e => (hb b hm).2.2 (e ▸ hx)⟩
  exact ⟨h1.sl.keep (fun _ _ _ => rfl) (fun b hm => up b (by simp [hm])), h2.sl.keep (fun _ _ _ => rfl) (fun b hm => up b (by simp [hm])), h3.sl.keep (fun _ _ _ => rfl) (fun b hm => up b (by simp [hm])), h4.sl.keep (fun _ _ _ => rfl) (fun b hm => up b (by simp [hm]))⟩
/-- Its words are a row that may be written. -/
theorem Own4C.memRow {e lo : Nat} {X : List Nat} {w : World} {r1 r3 r4 : Value} {A : Option Addr} {n c : Nat} {m : MchMach} (h : Own4C e X lo w r1 (.slice A n c) r3 r4 m) (hl : m.mem.length = 64) {xb : Nat} (hx : xb ∈ X) : ∃ g o, A = some ⟨g, o, none⟩ ∧ n = m.mem.length ∧ n ≤ c ∧ c ≤ maxLen ∧ FRow w g o m.mem ∧ lo ≤ g ∧ g ∉ X ∧ ∀ w', Turn [g] w w' → Sl w' (In lo xb w') r1 m.regs ∧ Sl w' (In lo xb w') r3 m.ins ∧ Sl w' (In lo xb w') r4 m.outs := by
  obtain ⟨F1, F2, F3, F4, h1, h2, h3, h4, hn, hb, c1, c4, a1, a4⟩ := h
  have hn2 : (F2 ++ (F1 ++ F3 ++ F4)).Nodup := by
    refine (List.Perm.nodup_iff ?_).1 hn
    have : (F1 ++ F2 ++ F3 ++ F4).Perm (F2 ++ F1 ++ F3 ++ F4) := ((List.perm_append_comm.append_right F3).append_right F4)
    simpa [List.append_assoc] using this
  have hd := (List.nodup_append.1 hn2).2.2
  have hF2 : Fr (voidOf w) w F2 := ⟨(List.nodup_append.1 hn2).1, fun b hm => ⟨by rw [void_size]; omega, (hb b (by simp [hm])).2.1⟩⟩
  obtain ⟨g, o, rfl, -, hR⟩ := FRow.of_own h2 hF2 (by omega)
  have hg : g ∈ F2 := by
    obtain ⟨A', c', q1, q2, q3, q0, q4, q5⟩ := h2
    obtain ⟨b, off, Gs, e', rfl, _⟩ := q5 (by intro q; rw [q] at hl; simp at hl)
    injection q1 with q1
    rw [e'] at q1
    injection q1 with q1
    injection q1 with q1
    simp [q1]
  obtain ⟨A', c', q1, q2, q3, _⟩ := h2
  injection q1 with e1 e2 e3
  subst e2 e3
  refine ⟨g, o, rfl, rfl, q2, q3, hR, (hb g (by simp [hg])).1, (hb g (by simp [hg])).2.2, fun w' k => ?_⟩
  have st : ∀ b, b ∈ F1 ++ F3 ++ F4 → w'.heap[b]? = w.heap[b]? := fun b hm => k.block b (hb b (by
    rcases List.mem_append.1 hm with hm | hm
    · rcases List.mem_append.1 hm with hm | hm <;> simp [hm]
    · simp [hm])).2.1 (fun hq => hd g hg b hm (by simp at hq; exact hq.symm))
  have up : ∀ b, b ∈ F1 ++ F2 ++ F3 ++ F4 → In lo xb w' b := fun b hm => ⟨(hb b hm).1, Nat.lt_of_lt_of_le (hb b hm).2.1 k.size, fun e => (hb b hm).2.2 (e ▸ hx)⟩
  exact ⟨(h1.stay (fun b hm => st b (by simp [hm]))).sl.keep (fun _ _ _ => rfl) (fun b hm => up b (by simp [hm])), (h3.stay (fun b hm => st b (by simp [hm]))).sl.keep (fun _ _ _ => rfl) (fun b hm => up b (by simp [hm])), (h4.stay (fun b hm => st b (by simp [hm]))).sl.keep (fun _ _ _ => rfl) (fun b hm => up b (by simp [hm]))⟩
theorem Sl.inT {α : Type} [Rep α] {lo xb : Nat} {w w' : World} {v : Value} {l : List α} {F : List Nat} (h : Sl w (In lo xb w) v l) (k : Turn F w w') (hF : ∀ x, x ∈ F → x < lo ∨ x = xb) : Sl w' (In lo xb w') v l :=
  (h.turn k (fun x hx => ⟨hx.2.1, fun hm => by
    rcases hF x hm with q | q
    · have := hx.1; omega
    · exact hx.2.2 q⟩)).keep (fun _ _ _ => rfl) (fun x hx => ⟨hx.1, Nat.lt_of_lt_of_le hx.2.1 k.size, hx.2.2⟩)
theorem Gro.slIn {e lo xb : Nat} {w : World} {v : Value} {l : List Int} (h : Gro e lo w v l) (hx : ∀ q, v.ownBlock = some q → q ≠ xb) : Sl w (In lo xb w) v l := by
  obtain ⟨wa, Fs, xs, h0, h⟩ := h
  obtain ⟨F, hO, hF⟩ := h.app.done4
  refine hO.sl.keep (fun _ _ _ => rfl) (fun b hb => ?_)
  rcases hF with rfl | ⟨q, hq, rfl⟩
  · simp at hb
  · simp at hb
    subst hb
    exact ⟨h.low b hq, h.lt b hq, hx b hq⟩
/-- A box that holds a machine, ok or not. -/
def OBox (xb lo : Nat) (w : World) : Prop := ∃ (m : MchMach) (A1 A2 A3 A4 : Option Addr) (c1 c2 c3 c4 : Nat), (m.regs.length ≤ 5 ∧ m.mem.length ≤ 64 ∧ m.ins.length ≤ 4 ∧ m.outs.length ≤ 61) ∧ (Sl w (In lo xb w) (.slice A1 m.regs.length c1) m.regs ∧ Sl w (In lo xb w) (.slice A2 m.mem.length c2) m.mem ∧ Sl w (In lo xb w) (.slice A3 m.ins.length c3) m.ins ∧ Sl w (In lo xb w) (.slice A4 m.outs.length c4) m.outs) ∧ Bx w xb [(.slice A1 m.regs.length c1), .int .i64 m.pc, (.slice A2 m.mem.length c2), .int .i64 m.save, .bool m.lets, .bool m.waits, .int .i64 m.halt, (.slice A3 m.ins.length c3), (.slice A4 m.outs.length c4), .int .i64 m.count] ∧ (∀ oo, w.frozen? ⟨xb, oo, none⟩ = false)
def OrPost (rb base P : Nat) (w : World) (e : Ending) (w' : World) : Prop := (∃ (m : MchMach) (A1 A2 A3 A4 : Option Addr) (c1 c2 c3 c4 : Nat), e = .returned (.agg #[(.slice A1 m.regs.length c1), .int .i64 m.pc, (.slice A2 m.mem.length c2), .int .i64 m.save, .bool m.lets, .bool m.waits, .int .i64 m.halt, (.slice A3 m.ins.length c3), (.slice A4 m.outs.length c4), .int .i64 m.count]) ∧ (m.regs.length ≤ 5 ∧ m.mem.length ≤ 64 ∧ m.ins.length ≤ 4 ∧ m.outs.length ≤ 61) ∧ Sl w' (New w w') (.slice A1 m.regs.length c1) m.regs ∧ Sl w' (New w w') (.slice A2 m.mem.length c2) m.mem ∧ Sl w' (New w w') (.slice A3 m.ins.length c3) m.ins ∧ Sl w' (New w w') (.slice A4 m.outs.length c4) m.outs) ∧ Rdr rb base (P + 2110) w' ∧ Turn [rb] w w'

set_option maxHeartbeats 16000000 in
theorem l20MachOr_any (rb base P : Nat) (w : World) (h : Rdr rb base P w) (hP : P ≤ 1099511400000) (n : Int) (hn0 : 0 ≤ n) (hn1 : n ≤ 1000) :
    Calls Tryd.prog 75 #[.pointer (some ⟨rb, 0, none⟩), .int .i64 n] w fun e w' => OrPost rb base P w e w' := by
  have hlt := h.lt
  have hlt1 := hlt.1
  have hlt2 := hlt.2
  clear hlt
  obtain ⟨i0, hi, hz0, hz1, hz2⟩ := info_parts infInt
  have HI := hide hi
  have HZ0 := hide hz0
  have HZ1 := hide hz1
  have HZ2 := hide hz2
  clear hi hz0 hz1 hz2
  obtain ⟨i1, hi, hz0, hz1, hz2⟩ := info_parts infInsIns
  have JI := hide hi
  have JZ0 := hide hz0
  have JZ1 := hide hz1
  have JZ2 := hide hz2
  clear hi hz0 hz1 hz2
  go_enter Tryd.func75, Tryd.ntmps75
  go_upto_region 1 with fail
  have he0 : Ext w (w.alloc (Obj.cells #[.slice none 0 0, .int .i64 0, .slice none 0 0, .int .i64 0, .bool false, .bool false, .int .i64 0, .slice none 0 0, .slice none 0 0, .int .i64 0] 51)) := (Ext.auto)
  have hs0 : w.heap.size + 1 ≤ ((w.alloc (Obj.cells #[.slice none 0 0, .int .i64 0, .slice none 0 0, .int .i64 0, .bool false, .bool false, .int .i64 0, .slice none 0 0, .slice none 0 0, .int .i64 0] 51))).heap.size := by simp
  have hq0 := hide (show ((w.alloc (Obj.cells #[.slice none 0 0, .int .i64 0, .slice none 0 0, .int .i64 0, .bool false, .bool false, .int .i64 0, .slice none 0 0, .slice none 0 0, .int .i64 0] 51))).heap.size = w.heap.size + 1 by simp)
  have hBres_0 : Bx (w.alloc (Obj.cells #[.slice none 0 0, .int .i64 0, .slice none 0 0, .int .i64 0, .bool false, .bool false, .int .i64 0, .slice none 0 0, .slice none 0 0, .int .i64 0] 51)) (w.heap.size) [.slice none 0 0, .int .i64 0, .slice none 0 0, .int .i64 0, .bool false, .bool false, .int .i64 0, .slice none 0 0, .slice none 0 0, .int .i64 0] := (by have := (Bx.new w #[.slice none 0 0, .int .i64 0, .slice none 0 0, .int .i64 0, .bool false, .bool false, .int .i64 0, .slice none 0 0, .slice none 0 0, .int .i64 0] 51); simpa using this)
  have hFres_0 : ∀ oo, ((w.alloc (Obj.cells #[.slice none 0 0, .int .i64 0, .slice none 0 0, .int .i64 0, .bool false, .bool false, .int .i64 0, .slice none 0 0, .slice none 0 0, .int .i64 0] 51))).frozen? ⟨w.heap.size, oo, none⟩ = false := fun oo => by simp
  generalize (w.alloc (Obj.cells #[.slice none 0 0, .int .i64 0, .slice none 0 0, .int .i64 0, .bool false, .bool false, .int .i64 0, .slice none 0 0, .slice none 0 0, .int .i64 0] 51)) = w0 at *
  have hR0 : Rdr rb base P w0 := h.ext he0
  have hT0 : Turn [rb] w w0 := Turn.of_ext he0 _
  go_wp2_with fail
  refine (l20Mach_any rb base _ _ (Rdr.hold hR0) (by omega)).mono ?_
  intro e w1 hmp
  unfold MachPost at hmp
  obtain ⟨⟨m, A1, A2, A3, A4, c1, c2, c3, c4, rfl, hk, hi, ho, hO⟩, hR1, hy⟩ := hmp
  have hs1 := hy.size
  try simp at hs1
  have hT1 : Turn [rb] w w1 := (Turn.hold hT0).trans hy
  have hBres_1 : Bx w1 (w.heap.size) [.slice none 0 0, .int .i64 0, .slice none 0 0, .int .i64 0, .bool false, .bool false, .int .i64 0, .slice none 0 0, .slice none 0 0, .int .i64 0] := hy.bx (Bx.hold hBres_0) (by first | omega | (simp; done) | (simp; omega)) (by simp; omega)
  have hFres_1 : ∀ oo, w1.frozen? ⟨w.heap.size, oo, none⟩ = false := fun oo => (hy.frozen (by first | omega | (simp; done) | (simp; omega)) (by simp; omega)).trans ((fz_hold hFres_0) oo)
  clear hBres_0 hFres_0
  clear hy
  go_upto_region 2 with fail
  have hO2 := hO.addX (show Ext w1 (w1.alloc (Obj.cells #[(.slice A1 m.regs.length c1), .int .i64 m.pc, (.slice A2 m.mem.length c2), .int .i64 m.save, .bool m.lets, .bool m.waits, .int .i64 m.halt, (.slice A3 m.ins.length c3), (.slice A4 m.outs.length c4), .int .i64 m.count] 51)) from Ext.auto) (Nat.le_refl _)
  have hR2 : Rdr rb base _ (w1.alloc (Obj.cells #[(.slice A1 m.regs.length c1), .int .i64 m.pc, (.slice A2 m.mem.length c2), .int .i64 m.save, .bool m.lets, .bool m.waits, .int .i64 m.halt, (.slice A3 m.ins.length c3), (.slice A4 m.outs.length c4), .int .i64 m.count] 51)) := Rdr.hold hR1
  have hT2 : Turn [rb] w (w1.alloc (Obj.cells #[(.slice A1 m.regs.length c1), .int .i64 m.pc, (.slice A2 m.mem.length c2), .int .i64 m.save, .bool m.lets, .bool m.waits, .int .i64 m.halt, (.slice A3 m.ins.length c3), (.slice A4 m.outs.length c4), .int .i64 m.count] 51)) := Turn.hold hT1
  have hs2 : w1.heap.size + 1 ≤ ((w1.alloc (Obj.cells #[(.slice A1 m.regs.length c1), .int .i64 m.pc, (.slice A2 m.mem.length c2), .int .i64 m.save, .bool m.lets, .bool m.waits, .int .i64 m.halt, (.slice A3 m.ins.length c3), (.slice A4 m.outs.length c4), .int .i64 m.count] 51))).heap.size := by simp
  have hBres_2 : Bx (w1.alloc (Obj.cells #[(.slice A1 m.regs.length c1), .int .i64 m.pc, (.slice A2 m.mem.length c2), .int .i64 m.save, .bool m.lets, .bool m.waits, .int .i64 m.halt, (.slice A3 m.ins.length c3), (.slice A4 m.outs.length c4), .int .i64 m.count] 51)) (w.heap.size) [.slice none 0 0, .int .i64 0, .slice none 0 0, .int .i64 0, .bool false, .bool false, .int .i64 0, .slice none 0 0, .slice none 0 0, .int .i64 0] := Bx.hold hBres_1
  have hFres_2 : ∀ oo, (w1.alloc (Obj.cells #[(.slice A1 m.regs.length c1), .int .i64 m.pc, (.slice A2 m.mem.length c2), .int .i64 m.save, .bool m.lets, .bool m.waits, .int .i64 m.halt, (.slice A3 m.ins.length c3), (.slice A4 m.outs.length c4), .int .i64 m.count] 51)).frozen? ⟨w.heap.size, oo, none⟩ = false := fz_hold hFres_1
  have hBx_2 : Bx (w1.alloc (Obj.cells #[(.slice A1 m.regs.length c1), .int .i64 m.pc, (.slice A2 m.mem.length c2), .int .i64 m.save, .bool m.lets, .bool m.waits, .int .i64 m.halt, (.slice A3 m.ins.length c3), (.slice A4 m.outs.length c4), .int .i64 m.count] 51)) (w1.heap.size) [(.slice A1 m.regs.length c1), .int .i64 m.pc, (.slice A2 m.mem.length c2), .int .i64 m.save, .bool m.lets, .bool m.waits, .int .i64 m.halt, (.slice A3 m.ins.length c3), (.slice A4 m.outs.length c4), .int .i64 m.count] := Bx.new w1 #[(.slice A1 m.regs.length c1), .int .i64 m.pc, (.slice A2 m.mem.length c2), .int .i64 m.save, .bool m.lets, .bool m.waits, .int .i64 m.halt, (.slice A3 m.ins.length c3), (.slice A4 m.outs.length c4), .int .i64 m.count] 51
  have hFx_2 : ∀ oo, (w1.alloc (Obj.cells #[(.slice A1 m.regs.length c1), .int .i64 m.pc, (.slice A2 m.mem.length c2), .int .i64 m.save, .bool m.lets, .bool m.waits, .int .i64 m.halt, (.slice A3 m.ins.length c3), (.slice A4 m.outs.length c4), .int .i64 m.count] 51)).frozen? ⟨w1.heap.size, oo, none⟩ = false := fz_new w1 #[(.slice A1 m.regs.length c1), .int .i64 m.pc, (.slice A2 m.mem.length c2), .int .i64 m.save, .bool m.lets, .bool m.waits, .int .i64 m.halt, (.slice A3 m.ins.length c3), (.slice A4 m.outs.length c4), .int .i64 m.count] 51 rfl
  generalize (w1.alloc (Obj.cells #[(.slice A1 m.regs.length c1), .int .i64 m.pc, (.slice A2 m.mem.length c2), .int .i64 m.save, .bool m.lets, .bool m.waits, .int .i64 m.halt, (.slice A3 m.ins.length c3), (.slice A4 m.outs.length c4), .int .i64 m.count] 51)) = w2 at *
  clear hBres_1 hFres_1
  clear hO
  have hO := hO2
  clear hO2
  have yx : w1.heap.size < w2.heap.size := by omega
  have hlo1 : w.heap.size < w0.heap.size := by omega
  have hlo2 : w0.heap.size ≤ w1.heap.size := by omega
  have nx : rb ≠ w1.heap.size := by omega
  generalize w0.heap.size = lo at *
  generalize w1.heap.size = xb at *
  have hrl := hk.rl
  have hml := hk.ml
  have HRL := hide hrl
  have HML := hide hml
  clear hrl hml
  go_wp2_with fail
  refine (odd_any rb base _ _ (Rdr.hold hR2) (by omega) n (by omega) (by omega)).mono ?_
  rintro e w3 ⟨⟨b, rfl⟩, hR3, hy⟩
  have hO3 := hO.turn hy (by simp)
  clear hO
  have hs3 := hy.size
  try simp at hs3
  have hT3 : Turn [rb] w w3 := (Turn.hold hT2).trans hy
  have hBres_3 : Bx w3 (w.heap.size) [.slice none 0 0, .int .i64 0, .slice none 0 0, .int .i64 0, .bool false, .bool false, .int .i64 0, .slice none 0 0, .slice none 0 0, .int .i64 0] := hy.bx (Bx.hold hBres_2) (by first | omega | (simp; done) | (simp; omega)) (by simp; omega)
  have hFres_3 : ∀ oo, w3.frozen? ⟨w.heap.size, oo, none⟩ = false := fun oo => (hy.frozen (by first | omega | (simp; done) | (simp; omega)) (by simp; omega)).trans ((fz_hold hFres_2) oo)
  have hBx_3 : Bx w3 (xb) [(.slice A1 m.regs.length c1), .int .i64 m.pc, (.slice A2 m.mem.length c2), .int .i64 m.save, .bool m.lets, .bool m.waits, .int .i64 m.halt, (.slice A3 m.ins.length c3), (.slice A4 m.outs.length c4), .int .i64 m.count] := hy.bx (Bx.hold hBx_2) (by first | omega | (simp; done) | (simp; omega)) (by simp; omega)
  have hFx_3 : ∀ oo, w3.frozen? ⟨xb, oo, none⟩ = false := fun oo => (hy.frozen (by first | omega | (simp; done) | (simp; omega)) (by simp; omega)).trans ((fz_hold hFx_2) oo)
  clear hBres_2 hFres_2 hBx_2 hFx_2
  clear hy
  have hO := hO3
  clear hO3
  go_upto_if 10 with fail
  go_cut [] (fun wx => OBox xb lo wx ∧ Bx wx (w.heap.size) [.slice none 0 0, .int .i64 0, .slice none 0 0, .int .i64 0, .bool false, .bool false, .int .i64 0, .slice none 0 0, .slice none 0 0, .int .i64 0] ∧ (∀ oo, wx.frozen? ⟨w.heap.size, oo, none⟩ = false) ∧ xb < wx.heap.size ∧ Rdr rb base (P + 2110) wx ∧ Turn [rb] w wx)
  case first =>
    cases b
    · 
      go_wp2_with fail
      obtain ⟨s1, s2, s3, s4⟩ := hO.slIn (xb := xb) (by simp)
      have hOb : OBox xb lo w3 := ⟨m, A1, A2, A3, A4, c1, c2, c3, c4, ⟨by have := HRL.out; first | omega | (simp; omega), by have := HML.out; first | omega | (simp; omega), by first | omega | (simp; omega), by first | omega | (simp; omega)⟩, ⟨s1, s2, s3, s4⟩, hBx_3, hFx_3⟩
      go_meet
      exact ⟨hOb, Bx.hold hBres_3, fz_hold hFres_3, by (try simp); omega, (Rdr.hold hR3).up (by omega), Turn.hold hT3⟩
    go_wp2_with fail
    refine (pick_any rb base _ _ (Rdr.hold hR3) (by omega) 8 (by omega) (by omega)).mono ?_
    rintro e w4 ⟨⟨v, rfl, lv, qv⟩, hR4, hy⟩
    have uv : v < 8 := by omega
    clear qv
    have hO4 := hO.turn hy (by simp)
    clear hO
    have hO := hO4
    clear hO4
    have hs4 := hy.size
    try simp at hs4
    have hT4 : Turn [rb] w w4 := (Turn.hold hT3).trans hy
    have hBres_4 : Bx w4 (w.heap.size) [.slice none 0 0, .int .i64 0, .slice none 0 0, .int .i64 0, .bool false, .bool false, .int .i64 0, .slice none 0 0, .slice none 0 0, .int .i64 0] := hy.bx (Bx.hold hBres_3) (by first | omega | (simp; done) | (simp; omega)) (by simp; omega)
    have hFres_4 : ∀ oo, w4.frozen? ⟨w.heap.size, oo, none⟩ = false := fun oo => (hy.frozen (by first | omega | (simp; done) | (simp; omega)) (by simp; omega)).trans ((fz_hold hFres_3) oo)
    have hBx_4 : Bx w4 (xb) [(.slice A1 m.regs.length c1), .int .i64 m.pc, (.slice A2 m.mem.length c2), .int .i64 m.save, .bool m.lets, .bool m.waits, .int .i64 m.halt, (.slice A3 m.ins.length c3), (.slice A4 m.outs.length c4), .int .i64 m.count] := hy.bx (Bx.hold hBx_3) (by first | omega | (simp; done) | (simp; omega)) (by simp; omega)
    have hFx_4 : ∀ oo, w4.frozen? ⟨xb, oo, none⟩ = false := fun oo => (hy.frozen (by first | omega | (simp; done) | (simp; omega)) (by simp; omega)).trans ((fz_hold hFx_3) oo)
    clear hBres_3 hFres_3 hBx_3 hFx_3
    have yx : xb < w4.heap.size := by omega
    have hc : v = 0 ∨ v = 1 ∨ v = 2 ∨ v = 3 ∨ v = 4 ∨ v = 5 ∨ v = 6 ∨ v = 7 := by omega
    clear lv uv
    rcases hc with rfl | rfl | rfl | rfl | rfl | rfl | rfl | rfl
    · 
      have yx : xb < w4.heap.size := by omega
      have xx0 := hBx_4 0 _ rfl
      have xx1 := hBx_4 1 _ rfl
      have xx2 := hBx_4 2 _ rfl
      have xx3 := hBx_4 3 _ rfl
      have xx4 := hBx_4 4 _ rfl
      have xx5 := hBx_4 5 _ rfl
      have xx6 := hBx_4 6 _ rfl
      have xx7 := hBx_4 7 _ rfl
      have xx8 := hBx_4 8 _ rfl
      have xx9 := hBx_4 9 _ rfl
      have fx := hFx_4
      obtain ⟨hG, hq, hap⟩ := hO.regsApart (xb := xb) HRL.out (by simp)
      have hGl := hG.lt
      obtain ⟨wa, Fs, xs, h00, hA⟩ := hG
      have hAf := hA.flat
      have hfit : Fits 1 := by unfold Fits; omega
      have hnx : xb ∉ (Value.slice A1 m.regs.length c1).ownBlock.toList := fun hm => (hq xb (by simpa using hm)).2.2 (by simp)
      have hnr : w.heap.size ∉ (Value.slice A1 m.regs.length c1).ownBlock.toList := fun hm => by have := (hq (w.heap.size) (by simpa using hm)).1; omega
      have hlen : m.regs.length ≤ 100 := by have := HRL.out; omega
      have hfoot : ∀ y, y ∈ (Value.slice A1 m.regs.length c1).ownBlock.toList → lo ≤ y := fun y hy => (hq y (by simpa using hy)).1
      go_wp2_with (at_builtin; go_must (refine wpList_append_push2 (α := Int) (w0 := wa) (wr := w4) rfl _ _ 39 rfl i0 _ 8 Tryd.underlying39 HI.out HZ0.out HZ1.out HZ2.out rfl (by decide) hA.app rfl (1) #[.int .i64 1] 3 [] _ rfl Ext.auto ⟨⟨rfl, hfit⟩, rfl⟩ (Fr.nil _ _) (by repeat (first | (exact fun _ h => absurd h (List.not_mem_nil)) | (refine List.forall_mem_cons.2 ⟨rfl, ?_⟩))) (by unfold maxLen; first | omega | (simp; done)) (by first | omega | (simp; done)) ?_); intro v' w9 xs' hA9 hg9 hb9; have hG9 := Gro.push h00 (fun q hq => (hGl q hq).1) (by simp; omega) hAf hA9 hb9; have hT9 := (Turn.of_grown (a := w4) (b := (w4.alloc (.cells #[.int .i64 1] 3))) Ext.auto hg9); obtain ⟨A9, c9, rfl, hl9, hm9⟩ := hG9.form; have hX9 := hT9.bx hBx_4 yx hnx; have hFx9 := fun oo => (hT9.frozen yx hnx).trans (hFx_4 oo); have yx9 := Nat.lt_of_lt_of_le yx (Turn.size hT9); have xz0 := hX9 0 _ rfl; have xz1 := hX9 1 _ rfl; have xz2 := hX9 2 _ rfl; have xz3 := hX9 3 _ rfl; have xz4 := hX9 4 _ rfl; have xz5 := hX9 5 _ rfl; have xz6 := hX9 6 _ rfl; have xz7 := hX9 7 _ rfl; have xz8 := hX9 8 _ rfl; have xz9 := hX9 9 _ rfl)
      have hll : (m.regs ++ [(1 : Int)]).length = m.regs.length + 1 := by simp
      obtain ⟨s2, s3, s4⟩ := hap w9 hT9
      have s1 := hG9.slIn (xb := xb) (fun q hq9 e => by
        subst e
        rcases hb9 with q9 | q9
        · exact (hq q (q9 ▸ hq9)).2.2 (by simp)
        · rw [q9] at hq9; injection hq9 with hq9; simp at hq9; omega)
      rw [hll] at s1
      have hBn : Bx (w9.setCell ⟨xb, 0, none⟩ (.slice A9 (m.regs.length + 1) c9)) xb [.slice A9 (m.regs.length + 1) c9, .int .i64 m.pc, (.slice A2 m.mem.length c2), .int .i64 m.save, .bool m.lets, .bool m.waits, .int .i64 m.halt, (.slice A3 m.ins.length c3), (.slice A4 m.outs.length c4), .int .i64 m.count] := by have := Bx.put hX9 (j := 0) (by simp) (.slice A9 (m.regs.length + 1) c9); simpa using this
      have hs9 := hT9.size
      have hR9 := hR4.turn hT9 (fun y hy => by have := hfoot y hy; omega)
      have hTw := hT4.trans hT9 (fun y hy => .inr (by have := hfoot y hy; omega))
      have hBr9 := hT9.bx hBres_4 (by omega) hnr
      have hFr9 : ∀ oo, w9.frozen? ⟨w.heap.size, oo, none⟩ = false := fun oo => (hT9.frozen (by omega) hnr).trans (hFres_4 oo)
      have hTT : Turn [xb] w9 (w9.setCell ⟨xb, 0, none⟩ (.slice A9 (m.regs.length + 1) c9)) := (Turn.refl _ _).set (.inl (by simp)) _
      have hlq : ({ m with regs := m.regs ++ [1] } : MchMach).regs.length = m.regs.length + 1 := hll
      have hOb : OBox xb lo (w9.setCell ⟨xb, 0, none⟩ (.slice A9 (m.regs.length + 1) c9)) := ⟨{ m with regs := m.regs ++ [1] }, A9, A2, A3, A4, c9, c2, c3, c4, ⟨by have := HRL.out; first | omega | (simp; omega), by have := HML.out; first | omega | (simp; omega), by first | omega | (simp; omega), by first | omega | (simp; omega)⟩, ⟨by rw [hlq]; exact s1.inT hTT (by simp), s2.inT hTT (by simp), s3.inT hTT (by simp), s4.inT hTT (by simp)⟩, by rw [hlq]; exact hBn, fz_hold hFx9⟩
      go_meet
      exact ⟨hOb, Bx.hold hBr9, fz_hold hFr9, by (try simp); omega, (Rdr.hold hR9).up (by omega), Turn.hold hTw⟩
    · 
      go_wp2_with fail
      refine (pick_any rb base _ _ (Rdr.hold hR4) (by omega) 3 (by omega) (by omega)).mono ?_
      rintro e w5 ⟨⟨iz, rfl, liz, qiz⟩, hR5, hy⟩
      have uiz : iz < 3 := by omega
      clear qiz
      have hO5 := (hO.ext (show Ext w4 (w4.alloc (.cells #[.int .i64 (-1), .int .i64 65536, .int .i64 65535] 3)) from Ext.auto)).turn hy (by simp)
      clear hO
      have hO := hO5
      clear hO5
      have hBt := hy.bx (Bx.new w4 #[.int .i64 (-1), .int .i64 65536, .int .i64 65535] 3) (by simp) (by simp; omega)
      have yt : w4.heap.size < w5.heap.size := by have := hy.size; simp at this; omega
      have hs5 := hy.size
      try simp at hs5
      have hT5 : Turn [rb] w w5 := (Turn.hold hT4).trans hy
      have hBres_5 : Bx w5 (w.heap.size) [.slice none 0 0, .int .i64 0, .slice none 0 0, .int .i64 0, .bool false, .bool false, .int .i64 0, .slice none 0 0, .slice none 0 0, .int .i64 0] := hy.bx (Bx.hold hBres_4) (by first | omega | (simp; done) | (simp; omega)) (by simp; omega)
      have hFres_5 : ∀ oo, w5.frozen? ⟨w.heap.size, oo, none⟩ = false := fun oo => (hy.frozen (by first | omega | (simp; done) | (simp; omega)) (by simp; omega)).trans ((fz_hold hFres_4) oo)
      have hBx_5 : Bx w5 (xb) [(.slice A1 m.regs.length c1), .int .i64 m.pc, (.slice A2 m.mem.length c2), .int .i64 m.save, .bool m.lets, .bool m.waits, .int .i64 m.halt, (.slice A3 m.ins.length c3), (.slice A4 m.outs.length c4), .int .i64 m.count] := hy.bx (Bx.hold hBx_4) (by first | omega | (simp; done) | (simp; omega)) (by simp; omega)
      have hFx_5 : ∀ oo, w5.frozen? ⟨xb, oo, none⟩ = false := fun oo => (hy.frozen (by first | omega | (simp; done) | (simp; omega)) (by simp; omega)).trans ((fz_hold hFx_4) oo)
      clear hBres_4 hFres_4 hBx_4 hFx_4
      obtain ⟨Vz, rfl⟩ := Int.eq_ofNat_of_zero_le liz
      have hVz : Vz < 3 := by omega
      have hBt : Bx w5 w4.heap.size (List.map (Value.int .i64) [-1, 65536, 65535]) := hBt
      have ez := hBt.at_ (v := Vz) hVz
      clear hBt
      generalize ([-1, 65536, 65535] : List Int)[Vz] = z at *
      have z0 : (0 : Int) ≤ (Vz : Int) := by omega
      have z1 : (Vz : Int) < 3 := by omega
      have yx : xb < w5.heap.size := by omega
      have yx : xb < w5.heap.size := by omega
      have xx0 := hBx_5 0 _ rfl
      have xx1 := hBx_5 1 _ rfl
      have xx2 := hBx_5 2 _ rfl
      have xx3 := hBx_5 3 _ rfl
      have xx4 := hBx_5 4 _ rfl
      have xx5 := hBx_5 5 _ rfl
      have xx6 := hBx_5 6 _ rfl
      have xx7 := hBx_5 7 _ rfl
      have xx8 := hBx_5 8 _ rfl
      have xx9 := hBx_5 9 _ rfl
      have fx := hFx_5
      go_wp2_with fail
      obtain ⟨s1, s2, s3, s4⟩ := hO.slIn (xb := xb) (by simp)
      have hBn : Bx (w5.setCell ⟨xb, 1, none⟩ (.int .i64 z)) xb [(.slice A1 m.regs.length c1), .int .i64 z, (.slice A2 m.mem.length c2), .int .i64 m.save, .bool m.lets, .bool m.waits, .int .i64 m.halt, (.slice A3 m.ins.length c3), (.slice A4 m.outs.length c4), .int .i64 m.count] := by have := Bx.put hBx_5 (j := 1) (by simp) (.int .i64 z); simpa using this
      have hTT : Turn [xb] w5 (w5.setCell ⟨xb, 1, none⟩ (.int .i64 z)) := (Turn.refl _ _).set (.inl (by simp)) _
      have hOb : OBox xb lo (w5.setCell ⟨xb, 1, none⟩ (.int .i64 z)) := ⟨{ m with pc := z }, A1, A2, A3, A4, c1, c2, c3, c4, ⟨by have := HRL.out; first | omega | (simp; omega), by have := HML.out; first | omega | (simp; omega), by first | omega | (simp; omega), by first | omega | (simp; omega)⟩, ⟨s1.inT hTT (by simp), s2.inT hTT (by simp), s3.inT hTT (by simp), s4.inT hTT (by simp)⟩, hBn, fz_hold hFx_5⟩
      go_meet
      exact ⟨hOb, Bx.hold hBres_5, fz_hold hFres_5, by (try simp); omega, (Rdr.hold hR5).up (by omega), Turn.hold hT5⟩
    · 
      have yx : xb < w4.heap.size := by omega
      have xx0 := hBx_4 0 _ rfl
      have xx1 := hBx_4 1 _ rfl
      have xx2 := hBx_4 2 _ rfl
      have xx3 := hBx_4 3 _ rfl
      have xx4 := hBx_4 4 _ rfl
      have xx5 := hBx_4 5 _ rfl
      have xx6 := hBx_4 6 _ rfl
      have xx7 := hBx_4 7 _ rfl
      have xx8 := hBx_4 8 _ rfl
      have xx9 := hBx_4 9 _ rfl
      have fx := hFx_4
      obtain ⟨g, o, rfl, hmm, hmc, hcm, hF, hlg, hgX, hap⟩ := hO.memRow (xb := xb) HML.out (by simp)
      clear hmm
      have h64 := HML.out
      have hc2 : ¬ (c2 = 1) := by omega
      have hl1 : 1 ≤ m.mem.length := by omega
      have hsd := (hO.slIn (xb := xb) (by simp)).2.1.drop (k := 1) (by omega)
      obtain ⟨s1, -, s3, s4⟩ := hO.slIn (xb := xb) (by simp)
      clear h64
      go_wp2_with fail
      have hBn : Bx (w4.setCell ⟨xb, 2, none⟩ (.slice (some ⟨g, o + 1, none⟩) (m.mem.length - 1) (c2 - 1))) xb [(.slice A1 m.regs.length c1), .int .i64 m.pc, .slice (some ⟨g, o + 1, none⟩) (m.mem.length - 1) (c2 - 1), .int .i64 m.save, .bool m.lets, .bool m.waits, .int .i64 m.halt, (.slice A3 m.ins.length c3), (.slice A4 m.outs.length c4), .int .i64 m.count] := by have := Bx.put hBx_4 (j := 2) (by simp) (.slice (some ⟨g, o + 1, none⟩) (m.mem.length - 1) (c2 - 1)); simpa using this
      have hTT : Turn [xb] w4 (w4.setCell ⟨xb, 2, none⟩ (.slice (some ⟨g, o + 1, none⟩) (m.mem.length - 1) (c2 - 1))) := (Turn.refl _ _).set (.inl (by simp)) _
      have hlq : ({ m with mem := m.mem.drop 1 } : MchMach).mem.length = m.mem.length - 1 := List.length_drop
      have hsd2 : Sl w4 (In lo xb w4) (.slice (some ⟨g, o + 1, none⟩) (m.mem.length - 1) (c2 - 1)) (m.mem.drop 1) := hsd
      have hOb : OBox xb lo (w4.setCell ⟨xb, 2, none⟩ (.slice (some ⟨g, o + 1, none⟩) (m.mem.length - 1) (c2 - 1))) := ⟨{ m with mem := m.mem.drop 1 }, A1, some ⟨g, o + 1, none⟩, A3, A4, c1, c2 - 1, c3, c4, ⟨by have := HRL.out; simp; omega, by have := HML.out; rw [hlq]; omega, by simp; omega, by simp; omega⟩, ⟨s1.inT hTT (by simp), by rw [hlq]; exact hsd2.inT hTT (by simp), s3.inT hTT (by simp), s4.inT hTT (by simp)⟩, by rw [hlq]; exact hBn, fz_hold hFx_4⟩
      go_meet
      exact ⟨hOb, Bx.hold hBres_4, fz_hold hFres_4, by (try simp); omega, (Rdr.hold hR4).up (by omega), Turn.hold hT4⟩
    · 
      have yx : xb < w4.heap.size := by omega
      have xx0 := hBx_4 0 _ rfl
      have xx1 := hBx_4 1 _ rfl
      have xx2 := hBx_4 2 _ rfl
      have xx3 := hBx_4 3 _ rfl
      have xx4 := hBx_4 4 _ rfl
      have xx5 := hBx_4 5 _ rfl
      have xx6 := hBx_4 6 _ rfl
      have xx7 := hBx_4 7 _ rfl
      have xx8 := hBx_4 8 _ rfl
      have xx9 := hBx_4 9 _ rfl
      have fx := hFx_4
      go_upto_region 12 with fail
      have hSx : ∀ w', Turn [rb] w4 w' → ∀ oo, w'.cell? ⟨xb, oo, none⟩ = w4.cell? ⟨xb, oo, none⟩ := fun w' hx oo => hx.cell (by omega) (by simp; omega)
      refine wp_region_plan (fun w' => Turn [rb] w4 w') 7 (.float 0 (.float 1 (.float 2 (.float 3 (.float 4 (.float 5 (.chain 6 (.tail 7)))))))) (by kernel_rfl) (by kernel_rfl) (Turn.of_ext (Ext.refl _).drew _) ?_
      iterate 6 ((refine Plan.float_step (v := ?_) rfl (by rfl) (fun _ _ _ h => h) (fun w' hSw => ?_) ?_; rotate_left; · (go_simp; try with_reducible rfl)); (try simp only [Act.put, List.setIfInBounds_toArray, List.set_cons_zero, List.set_cons_succ]))
      refine Plan.chain_step rfl (fun K hK => ?_)
      go_simp
      refine (pick_any rb base _ _ (Rdr.hold hR4) (by omega) (m.mem.length : Int) (by have := HML.out; omega) (by omega)).mono ?_
      rintro e w5 ⟨⟨i, rfl, li, qi⟩, hR5, hy⟩
      have ui : i < 64 := by have := HML.out; omega
      clear qi
      refine hK.out _ _ (Turn.pre Ext.auto hy) ?_
      clear hK
      (try simp only [Act.put, List.setIfInBounds_toArray, List.set_cons_zero, List.set_cons_succ])
      have hO5 := (hO.ext (show Ext w4 w4.drew from Ext.auto)).turn hy (by simp)
      clear hO
      have hO := hO5
      clear hO5
      clear xx0 xx1 xx2 xx3 xx4 xx5 xx6 xx7 xx8 xx9 yx
      clear fx
      have hs5 := hy.size
      try simp at hs5
      have hT5 : Turn [rb] w w5 := (Turn.hold hT4).trans hy
      have hBres_5 : Bx w5 (w.heap.size) [.slice none 0 0, .int .i64 0, .slice none 0 0, .int .i64 0, .bool false, .bool false, .int .i64 0, .slice none 0 0, .slice none 0 0, .int .i64 0] := hy.bx (Bx.hold hBres_4) (by first | omega | (simp; done) | (simp; omega)) (by simp; omega)
      have hFres_5 : ∀ oo, w5.frozen? ⟨w.heap.size, oo, none⟩ = false := fun oo => (hy.frozen (by first | omega | (simp; done) | (simp; omega)) (by simp; omega)).trans ((fz_hold hFres_4) oo)
      have hBx_5 : Bx w5 (xb) [(.slice A1 m.regs.length c1), .int .i64 m.pc, (.slice A2 m.mem.length c2), .int .i64 m.save, .bool m.lets, .bool m.waits, .int .i64 m.halt, (.slice A3 m.ins.length c3), (.slice A4 m.outs.length c4), .int .i64 m.count] := hy.bx (Bx.hold hBx_4) (by first | omega | (simp; done) | (simp; omega)) (by simp; omega)
      have hFx_5 : ∀ oo, w5.frozen? ⟨xb, oo, none⟩ = false := fun oo => (hy.frozen (by first | omega | (simp; done) | (simp; omega)) (by simp; omega)).trans ((fz_hold hFx_4) oo)
      clear hBres_4 hFres_4 hBx_4 hFx_4
      have yx : xb < w5.heap.size := by omega
      have xx0 := hBx_5 0 _ rfl
      have xx1 := hBx_5 1 _ rfl
      have xx2 := hBx_5 2 _ rfl
      have xx3 := hBx_5 3 _ rfl
      have xx4 := hBx_5 4 _ rfl
      have xx5 := hBx_5 5 _ rfl
      have xx6 := hBx_5 6 _ rfl
      have xx7 := hBx_5 7 _ rfl
      have xx8 := hBx_5 8 _ rfl
      have xx9 := hBx_5 9 _ rfl
      have fx := hFx_5
      refine Plan.tail_step ?_
      simp only [List.drop_succ_cons, List.drop_zero]
      clear hSx
      have yx : xb < w5.heap.size := by omega
      obtain ⟨g, o, rfl, hmm, hmc, hcm, hF, hlg, hgX, hap⟩ := hO.memRow (xb := xb) HML.out (by simp)
      obtain ⟨I, rfl⟩ := Int.eq_ofNat_of_zero_le li
      have hI : I < m.mem.length := by have := HML.out; omega
      have hfx : Fits 65536 := by unfold Fits; omega
      have hFn := hF.setInt hI 65536 hfx
      have hce := hF.int hI
      have hfz := hF.fz
      have hgl : g < w5.heap.size := hF.lt
      have z0 : (0 : Int) ≤ (I : Int) := by omega
      have z1 : (I : Int) < (m.mem.length : Int) := by omega
      clear hmm
      go_wp2_with fail
      have hTg : Turn [g] w5 (w5.setCell ⟨g, o + I, none⟩ (.int .i64 65536)) := (Turn.refl _ _).set (.inl (by simp)) _
      obtain ⟨s1, s3, s4⟩ := hap _ hTg
      have hgx : g ≠ xb := fun e => hgX (by simp [e])
      have hgr : g ≠ rb := fun e => hgX (by simp [e])
      have s2 := (hFn.slAt (n := m.mem.length) (c := c2) (by rw [List.length_set]) (by rw [List.length_set]; exact hmc) hcm).keep (S' := In lo xb (w5.setCell ⟨g, o + I, none⟩ (.int .i64 65536))) (fun _ _ _ => rfl) (fun b hb => by subst hb; exact ⟨hlg, by simp; omega, hgx⟩)
      have hlq : ({ m with mem := m.mem.set I 65536 } : MchMach).mem.length = m.mem.length := List.length_set
      have hOb : OBox xb lo (w5.setCell ⟨g, o + I, none⟩ (.int .i64 65536)) := ⟨{ m with mem := m.mem.set I 65536 }, A1, some ⟨g, o, none⟩, A3, A4, c1, c2, c3, c4, ⟨by have := HRL.out; simp; omega, by have := HML.out; rw [hlq]; omega, by simp; omega, by simp; omega⟩, ⟨s1, by rw [hlq]; exact s2, s3, s4⟩, by rw [hlq]; exact hTg.bx hBx_5 yx (by simp; omega), fun oo => (hTg.frozen yx (by simp; omega)).trans (hFx_5 oo)⟩
      go_meet
      exact ⟨hOb, hTg.bx hBres_5 (by omega) (by simp; omega), fun oo => (hTg.frozen (by omega) (by simp; omega)).trans (hFres_5 oo), by (try simp); omega, (hR5.turn hTg (by simp; omega)).up (by omega), hT5.trans hTg (by simp; omega)⟩
    · 
      go_wp2_with fail
      refine (pick_any rb base _ _ (Rdr.hold hR4) (by omega) 3 (by omega) (by omega)).mono ?_
      rintro e w5 ⟨⟨iz, rfl, liz, qiz⟩, hR5, hy⟩
      have uiz : iz < 3 := by omega
      clear qiz
      have hO5 := (hO.ext (show Ext w4 (w4.alloc (.cells #[.int .i64 (-1), .int .i64 5, .int .i64 1] 3)) from Ext.auto)).turn hy (by simp)
      clear hO
      have hO := hO5
      clear hO5
      have hBt := hy.bx (Bx.new w4 #[.int .i64 (-1), .int .i64 5, .int .i64 1] 3) (by simp) (by simp; omega)
      have yt : w4.heap.size < w5.heap.size := by have := hy.size; simp at this; omega
      have hs5 := hy.size
      try simp at hs5
      have hT5 : Turn [rb] w w5 := (Turn.hold hT4).trans hy
      have hBres_5 : Bx w5 (w.heap.size) [.slice none 0 0, .int .i64 0, .slice none 0 0, .int .i64 0, .bool false, .bool false, .int .i64 0, .slice none 0 0, .slice none 0 0, .int .i64 0] := hy.bx (Bx.hold hBres_4) (by first | omega | (simp; done) | (simp; omega)) (by simp; omega)
      have hFres_5 : ∀ oo, w5.frozen? ⟨w.heap.size, oo, none⟩ = false := fun oo => (hy.frozen (by first | omega | (simp; done) | (simp; omega)) (by simp; omega)).trans ((fz_hold hFres_4) oo)
      have hBx_5 : Bx w5 (xb) [(.slice A1 m.regs.length c1), .int .i64 m.pc, (.slice A2 m.mem.length c2), .int .i64 m.save, .bool m.lets, .bool m.waits, .int .i64 m.halt, (.slice A3 m.ins.length c3), (.slice A4 m.outs.length c4), .int .i64 m.count] := hy.bx (Bx.hold hBx_4) (by first | omega | (simp; done) | (simp; omega)) (by simp; omega)
      have hFx_5 : ∀ oo, w5.frozen? ⟨xb, oo, none⟩ = false := fun oo => (hy.frozen (by first | omega | (simp; done) | (simp; omega)) (by simp; omega)).trans ((fz_hold hFx_4) oo)
      clear hBres_4 hFres_4 hBx_4 hFx_4
      obtain ⟨Vz, rfl⟩ := Int.eq_ofNat_of_zero_le liz
      have hVz : Vz < 3 := by omega
      have hBt : Bx w5 w4.heap.size (List.map (Value.int .i64) [-1, 5, 1]) := hBt
      have ez := hBt.at_ (v := Vz) hVz
      clear hBt
      generalize ([-1, 5, 1] : List Int)[Vz] = z at *
      have z0 : (0 : Int) ≤ (Vz : Int) := by omega
      have z1 : (Vz : Int) < 3 := by omega
      have yx : xb < w5.heap.size := by omega
      have yx : xb < w5.heap.size := by omega
      have xx0 := hBx_5 0 _ rfl
      have xx1 := hBx_5 1 _ rfl
      have xx2 := hBx_5 2 _ rfl
      have xx3 := hBx_5 3 _ rfl
      have xx4 := hBx_5 4 _ rfl
      have xx5 := hBx_5 5 _ rfl
      have xx6 := hBx_5 6 _ rfl
      have xx7 := hBx_5 7 _ rfl
      have xx8 := hBx_5 8 _ rfl
      have xx9 := hBx_5 9 _ rfl
      have fx := hFx_5
      go_wp2_with fail
      obtain ⟨s1, s2, s3, s4⟩ := hO.slIn (xb := xb) (by simp)
      have hBn : Bx (w5.setCell ⟨xb, 6, none⟩ (.int .i64 z)) xb [(.slice A1 m.regs.length c1), .int .i64 m.pc, (.slice A2 m.mem.length c2), .int .i64 m.save, .bool m.lets, .bool m.waits, .int .i64 z, (.slice A3 m.ins.length c3), (.slice A4 m.outs.length c4), .int .i64 m.count] := by have := Bx.put hBx_5 (j := 6) (by simp) (.int .i64 z); simpa using this
      have hTT : Turn [xb] w5 (w5.setCell ⟨xb, 6, none⟩ (.int .i64 z)) := (Turn.refl _ _).set (.inl (by simp)) _
      have hOb : OBox xb lo (w5.setCell ⟨xb, 6, none⟩ (.int .i64 z)) := ⟨{ m with halt := z }, A1, A2, A3, A4, c1, c2, c3, c4, ⟨by have := HRL.out; first | omega | (simp; omega), by have := HML.out; first | omega | (simp; omega), by first | omega | (simp; omega), by first | omega | (simp; omega)⟩, ⟨s1.inT hTT (by simp), s2.inT hTT (by simp), s3.inT hTT (by simp), s4.inT hTT (by simp)⟩, hBn, fz_hold hFx_5⟩
      go_meet
      exact ⟨hOb, Bx.hold hBres_5, fz_hold hFres_5, by (try simp); omega, (Rdr.hold hR5).up (by omega), Turn.hold hT5⟩
    · 
      have yx : xb < w4.heap.size := by omega
      have xx0 := hBx_4 0 _ rfl
      have xx1 := hBx_4 1 _ rfl
      have xx2 := hBx_4 2 _ rfl
      have xx3 := hBx_4 3 _ rfl
      have xx4 := hBx_4 4 _ rfl
      have xx5 := hBx_4 5 _ rfl
      have xx6 := hBx_4 6 _ rfl
      have xx7 := hBx_4 7 _ rfl
      have xx8 := hBx_4 8 _ rfl
      have xx9 := hBx_4 9 _ rfl
      have fx := hFx_4
      obtain ⟨hG, hq, hap⟩ := hO.outsApart (xb := xb) (by simp)
      have hGl := hG.lt
      obtain ⟨wa, Fs, xs, h00, hA⟩ := hG
      have hAf := hA.flat
      have hfit : Fits (-1) := by unfold Fits; omega
      have hnx : xb ∉ (Value.slice A4 m.outs.length c4).ownBlock.toList := fun hm => (hq xb (by simpa using hm)).2.2 (by simp)
      have hnr : w.heap.size ∉ (Value.slice A4 m.outs.length c4).ownBlock.toList := fun hm => by have := (hq (w.heap.size) (by simpa using hm)).1; omega
      have hlen : m.outs.length ≤ 100 := by have := HRL.out; omega
      have hfoot : ∀ y, y ∈ (Value.slice A4 m.outs.length c4).ownBlock.toList → lo ≤ y := fun y hy => (hq y (by simpa using hy)).1
      go_wp2_with (at_builtin; go_must (refine wpList_append_push2 (α := Int) (w0 := wa) (wr := w4) rfl _ _ 39 rfl i0 _ 8 Tryd.underlying39 HI.out HZ0.out HZ1.out HZ2.out rfl (by decide) hA.app rfl ((-1)) #[.int .i64 (-1)] 3 [] _ rfl Ext.auto ⟨⟨rfl, hfit⟩, rfl⟩ (Fr.nil _ _) (by repeat (first | (exact fun _ h => absurd h (List.not_mem_nil)) | (refine List.forall_mem_cons.2 ⟨rfl, ?_⟩))) (by unfold maxLen; first | omega | (simp; done)) (by first | omega | (simp; done)) ?_); intro v' w9 xs' hA9 hg9 hb9; have hG9 := Gro.push h00 (fun q hq => (hGl q hq).1) (by simp; omega) hAf hA9 hb9; have hT9 := (Turn.of_grown (a := w4) (b := (w4.alloc (.cells #[.int .i64 (-1)] 3))) Ext.auto hg9); obtain ⟨A9, c9, rfl, hl9, hm9⟩ := hG9.form; have hX9 := hT9.bx hBx_4 yx hnx; have hFx9 := fun oo => (hT9.frozen yx hnx).trans (hFx_4 oo); have yx9 := Nat.lt_of_lt_of_le yx (Turn.size hT9); have xz0 := hX9 0 _ rfl; have xz1 := hX9 1 _ rfl; have xz2 := hX9 2 _ rfl; have xz3 := hX9 3 _ rfl; have xz4 := hX9 4 _ rfl; have xz5 := hX9 5 _ rfl; have xz6 := hX9 6 _ rfl; have xz7 := hX9 7 _ rfl; have xz8 := hX9 8 _ rfl; have xz9 := hX9 9 _ rfl)
      have hll : (m.outs ++ [(-1 : Int)]).length = m.outs.length + 1 := by simp
      obtain ⟨s1, s2, s3⟩ := hap w9 hT9
      have s4 := hG9.slIn (xb := xb) (fun q hq9 e => by
        subst e
        rcases hb9 with q9 | q9
        · exact (hq q (q9 ▸ hq9)).2.2 (by simp)
        · rw [q9] at hq9; injection hq9 with hq9; simp at hq9; omega)
      rw [hll] at s4
      have hBn : Bx (w9.setCell ⟨xb, 8, none⟩ (.slice A9 (m.outs.length + 1) c9)) xb [(.slice A1 m.regs.length c1), .int .i64 m.pc, (.slice A2 m.mem.length c2), .int .i64 m.save, .bool m.lets, .bool m.waits, .int .i64 m.halt, (.slice A3 m.ins.length c3), .slice A9 (m.outs.length + 1) c9, .int .i64 m.count] := by have := Bx.put hX9 (j := 8) (by simp) (.slice A9 (m.outs.length + 1) c9); simpa using this
      have hs9 := hT9.size
      have hR9 := hR4.turn hT9 (fun y hy => by have := hfoot y hy; omega)
      have hTw := hT4.trans hT9 (fun y hy => .inr (by have := hfoot y hy; omega))
      have hBr9 := hT9.bx hBres_4 (by omega) hnr
      have hFr9 : ∀ oo, w9.frozen? ⟨w.heap.size, oo, none⟩ = false := fun oo => (hT9.frozen (by omega) hnr).trans (hFres_4 oo)
      have hTT : Turn [xb] w9 (w9.setCell ⟨xb, 8, none⟩ (.slice A9 (m.outs.length + 1) c9)) := (Turn.refl _ _).set (.inl (by simp)) _
      have hlq : ({ m with outs := m.outs ++ [-1] } : MchMach).outs.length = m.outs.length + 1 := hll
      have hOb : OBox xb lo (w9.setCell ⟨xb, 8, none⟩ (.slice A9 (m.outs.length + 1) c9)) := ⟨{ m with outs := m.outs ++ [-1] }, A1, A2, A3, A9, c1, c2, c3, c9, ⟨by have := HRL.out; first | omega | (simp; omega), by have := HML.out; first | omega | (simp; omega), by first | omega | (simp; omega), by first | omega | (simp; omega)⟩, ⟨s1.inT hTT (by simp), s2.inT hTT (by simp), s3.inT hTT (by simp), by rw [hlq]; exact s4.inT hTT (by simp)⟩, by rw [hlq]; exact hBn, fz_hold hFx9⟩
      go_meet
      exact ⟨hOb, Bx.hold hBr9, fz_hold hFr9, by (try simp); omega, (Rdr.hold hR9).up (by omega), Turn.hold hTw⟩
    · 
      have yx : xb < w4.heap.size := by omega
      have xx0 := hBx_4 0 _ rfl
      have xx1 := hBx_4 1 _ rfl
      have xx2 := hBx_4 2 _ rfl
      have xx3 := hBx_4 3 _ rfl
      have xx4 := hBx_4 4 _ rfl
      have xx5 := hBx_4 5 _ rfl
      have xx6 := hBx_4 6 _ rfl
      have xx7 := hBx_4 7 _ rfl
      have xx8 := hBx_4 8 _ rfl
      have xx9 := hBx_4 9 _ rfl
      have fx := hFx_4
      go_wp2_with fail
      obtain ⟨s1, s2, s3, s4⟩ := hO.slIn (xb := xb) (by simp)
      have hBn : Bx (w4.setCell ⟨xb, 3, none⟩ (.int .i64 (-1))) xb [(.slice A1 m.regs.length c1), .int .i64 m.pc, (.slice A2 m.mem.length c2), .int .i64 (-1), .bool m.lets, .bool m.waits, .int .i64 m.halt, (.slice A3 m.ins.length c3), (.slice A4 m.outs.length c4), .int .i64 m.count] := by have := Bx.put hBx_4 (j := 3) (by simp) (.int .i64 (-1)); simpa using this
      have hTT : Turn [xb] w4 (w4.setCell ⟨xb, 3, none⟩ (.int .i64 (-1))) := (Turn.refl _ _).set (.inl (by simp)) _
      have hOb : OBox xb lo (w4.setCell ⟨xb, 3, none⟩ (.int .i64 (-1))) := ⟨{ m with save := -1 }, A1, A2, A3, A4, c1, c2, c3, c4, ⟨by have := HRL.out; first | omega | (simp; omega), by have := HML.out; first | omega | (simp; omega), by first | omega | (simp; omega), by first | omega | (simp; omega)⟩, ⟨s1.inT hTT (by simp), s2.inT hTT (by simp), s3.inT hTT (by simp), s4.inT hTT (by simp)⟩, hBn, fz_hold hFx_4⟩
      go_meet
      exact ⟨hOb, Bx.hold hBres_4, fz_hold hFres_4, by (try simp); omega, (Rdr.hold hR4).up (by omega), Turn.hold hT4⟩
    · 
      go_wp2_with fail
      refine (pick_any rb base _ _ (Rdr.hold hR4) (by omega) 4 (by omega) (by omega)).mono ?_
      rintro e w5 ⟨⟨iz, rfl, liz, qiz⟩, hR5, hy⟩
      have uiz : iz < 4 := by omega
      clear qiz
      have hO5 := (hO.ext (show Ext w4 (w4.alloc (.cells #[.int .i64 (-1), .int .i64 1000000, .int .i64 1000001, .int .i64 999997] 3)) from Ext.auto)).turn hy (by simp)
      clear hO
      have hO := hO5
      clear hO5
      have hBt := hy.bx (Bx.new w4 #[.int .i64 (-1), .int .i64 1000000, .int .i64 1000001, .int .i64 999997] 3) (by simp) (by simp; omega)
      have yt : w4.heap.size < w5.heap.size := by have := hy.size; simp at this; omega
      have hs5 := hy.size
      try simp at hs5
      have hT5 : Turn [rb] w w5 := (Turn.hold hT4).trans hy
      have hBres_5 : Bx w5 (w.heap.size) [.slice none 0 0, .int .i64 0, .slice none 0 0, .int .i64 0, .bool false, .bool false, .int .i64 0, .slice none 0 0, .slice none 0 0, .int .i64 0] := hy.bx (Bx.hold hBres_4) (by first | omega | (simp; done) | (simp; omega)) (by simp; omega)
      have hFres_5 : ∀ oo, w5.frozen? ⟨w.heap.size, oo, none⟩ = false := fun oo => (hy.frozen (by first | omega | (simp; done) | (simp; omega)) (by simp; omega)).trans ((fz_hold hFres_4) oo)
      have hBx_5 : Bx w5 (xb) [(.slice A1 m.regs.length c1), .int .i64 m.pc, (.slice A2 m.mem.length c2), .int .i64 m.save, .bool m.lets, .bool m.waits, .int .i64 m.halt, (.slice A3 m.ins.length c3), (.slice A4 m.outs.length c4), .int .i64 m.count] := hy.bx (Bx.hold hBx_4) (by first | omega | (simp; done) | (simp; omega)) (by simp; omega)
      have hFx_5 : ∀ oo, w5.frozen? ⟨xb, oo, none⟩ = false := fun oo => (hy.frozen (by first | omega | (simp; done) | (simp; omega)) (by simp; omega)).trans ((fz_hold hFx_4) oo)
      clear hBres_4 hFres_4 hBx_4 hFx_4
      obtain ⟨Vz, rfl⟩ := Int.eq_ofNat_of_zero_le liz
      have hVz : Vz < 4 := by omega
      have hBt : Bx w5 w4.heap.size (List.map (Value.int .i64) [-1, 1000000, 1000001, 999997]) := hBt
      have ez := hBt.at_ (v := Vz) hVz
      clear hBt
      generalize ([-1, 1000000, 1000001, 999997] : List Int)[Vz] = z at *
      have z0 : (0 : Int) ≤ (Vz : Int) := by omega
      have z1 : (Vz : Int) < 4 := by omega
      have yx : xb < w5.heap.size := by omega
      have yx : xb < w5.heap.size := by omega
      have xx0 := hBx_5 0 _ rfl
      have xx1 := hBx_5 1 _ rfl
      have xx2 := hBx_5 2 _ rfl
      have xx3 := hBx_5 3 _ rfl
      have xx4 := hBx_5 4 _ rfl
      have xx5 := hBx_5 5 _ rfl
      have xx6 := hBx_5 6 _ rfl
      have xx7 := hBx_5 7 _ rfl
      have xx8 := hBx_5 8 _ rfl
      have xx9 := hBx_5 9 _ rfl
      have fx := hFx_5
      go_wp2_with fail
      obtain ⟨s1, s2, s3, s4⟩ := hO.slIn (xb := xb) (by simp)
      have hBn : Bx (w5.setCell ⟨xb, 9, none⟩ (.int .i64 z)) xb [(.slice A1 m.regs.length c1), .int .i64 m.pc, (.slice A2 m.mem.length c2), .int .i64 m.save, .bool m.lets, .bool m.waits, .int .i64 m.halt, (.slice A3 m.ins.length c3), (.slice A4 m.outs.length c4), .int .i64 z] := by have := Bx.put hBx_5 (j := 9) (by simp) (.int .i64 z); simpa using this
      have hTT : Turn [xb] w5 (w5.setCell ⟨xb, 9, none⟩ (.int .i64 z)) := (Turn.refl _ _).set (.inl (by simp)) _
      have hOb : OBox xb lo (w5.setCell ⟨xb, 9, none⟩ (.int .i64 z)) := ⟨{ m with count := z }, A1, A2, A3, A4, c1, c2, c3, c4, ⟨by have := HRL.out; first | omega | (simp; omega), by have := HML.out; first | omega | (simp; omega), by first | omega | (simp; omega), by first | omega | (simp; omega)⟩, ⟨s1.inT hTT (by simp), s2.inT hTT (by simp), s3.inT hTT (by simp), s4.inT hTT (by simp)⟩, hBn, fz_hold hFx_5⟩
      go_meet
      exact ⟨hOb, Bx.hold hBres_5, fz_hold hFres_5, by (try simp); omega, (Rdr.hold hR5).up (by omega), Turn.hold hT5⟩
  case rest =>
    obtain ⟨hM, hBres_5, hFres_5, yx, hR5, hT5⟩ := hcut
    obtain ⟨w5, hwc⟩ : ∃ w5 : World, w5 = wc := ⟨_, rfl⟩
    subst hwc
    clear hBres_3 hFres_3 hBx_3 hFx_3 hO
    have hs5 : w.heap.size < w5.heap.size := by omega
    unfold OBox at hM
    obtain ⟨m, A1, A2, A3, A4, c1, c2, c3, c4, hlens, ⟨s1, s2, s3, s4⟩, hBx, hFx⟩ := hM
    have xx0 := hBx 0 _ rfl
    have xx1 := hBx 1 _ rfl
    have xx2 := hBx 2 _ rfl
    have xx3 := hBx 3 _ rfl
    have xx4 := hBx 4 _ rfl
    have xx5 := hBx 5 _ rfl
    have xx6 := hBx 6 _ rfl
    have xx7 := hBx 7 _ rfl
    have xx8 := hBx 8 _ rfl
    have xx9 := hBx 9 _ rfl
    have fx := hFx
    have yres : w.heap.size < w5.heap.size := by omega
    have xres0 := hBres_5 0 _ rfl
    have xres1 := hBres_5 1 _ rfl
    have xres2 := hBres_5 2 _ rfl
    have xres3 := hBres_5 3 _ rfl
    have xres4 := hBres_5 4 _ rfl
    have xres5 := hBres_5 5 _ rfl
    have xres6 := hBres_5 6 _ rfl
    have xres7 := hBres_5 7 _ rfl
    have xres8 := hBres_5 8 _ rfl
    have xres9 := hBres_5 9 _ rfl
    have fres := hFres_5
    go_wp2
    refine bodyPost_ret (v := .agg #[(.slice A1 m.regs.length c1), .int .i64 m.pc, (.slice A2 m.mem.length c2), .int .i64 m.save, .bool m.lets, .bool m.waits, .int .i64 m.halt, (.slice A3 m.ins.length c3), (.slice A4 m.outs.length c4), .int .i64 m.count]) (by simp [results, Tryd.results75, go_sem, xres0, xres1, xres2, xres3, xres4, xres5, xres6, xres7, xres8, xres9]) rfl ?_
    unfold OrPost
    refine ⟨⟨m, A1, A2, A3, A4, c1, c2, c3, c4, rfl, hlens, ?_, ?_, ?_, ?_⟩, (Rdr.hold hR5).up (by omega), Turn.hold hT5⟩
    · exact (s1.inT (Turn.hold (Turn.refl [w.heap.size] w5)) (by simp; omega)).keep (fun _ _ _ => rfl) (fun b hb => ⟨by have := hb.1; omega, hb.2.1⟩)
    · exact (s2.inT (Turn.hold (Turn.refl [w.heap.size] w5)) (by simp; omega)).keep (fun _ _ _ => rfl) (fun b hb => ⟨by have := hb.1; omega, hb.2.1⟩)
    · exact (s3.inT (Turn.hold (Turn.refl [w.heap.size] w5)) (by simp; omega)).keep (fun _ _ _ => rfl) (fun b hb => ⟨by have := hb.1; omega, hb.2.1⟩)
    · exact (s4.inT (Turn.hold (Turn.refl [w.heap.size] w5)) (by simp; omega)).keep (fun _ _ _ => rfl) (fun b hb => ⟨by have := hb.1; omega, hb.2.1⟩)

end Go.Proofs.YtokibcicoomceaaDoor
