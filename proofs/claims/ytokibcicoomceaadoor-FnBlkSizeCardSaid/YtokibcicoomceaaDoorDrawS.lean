/-
  Slices of words are drawn.
-/
import Derived.Test.YtokibcicoomceaaDoorDrawW
import Derived.Test.YtokibcicoomceaaDoorGrowLib
import Derived.Test.YtokibcicoomceaaDoorTo
import Derived.Deep.DeepCutAuto
namespace Go.Proofs.YtokibcicoomceaaDoor
open Go.RowKit

set_option linter.unusedVariables false
set_option linter.unusedSimpArgs false
set_option maxRecDepth 100000

theorem Gro.push {α : Type} [Flat α] {e : TypeId} {lo : Nat} {wa W w9 : World} {v v' : Value} {l : List α} {a : α} {Fs : List (List Nat)} {xs' : List Value} (h0 : wa.heap.size = 0) (hl : ∀ q, v.ownBlock = some q → lo ≤ q) (hW : lo ≤ W.heap.size) (hf : Fs.flatten = [])
    (h9 : App wa w9 e v' (l ++ [a]) (Fs ++ [[]]) xs') (hb : v'.ownBlock = v.ownBlock ∨ v'.ownBlock = some W.heap.size) : Gro e lo w9 v' (l ++ [a]) :=
  ⟨wa, _, xs', h0, ⟨h9, fun q hq => by
    rcases hb with hb | hb
    · exact hl q (hb ▸ hq)
    · rw [hb] at hq; injection hq with hq; omega, by simp [hf]⟩⟩

set_option maxHeartbeats 16000000 in
theorem l20Words_any (rb base P : Nat) (w : World) (h : Rdr rb base P w) (hP : P ≤ 1099511610000) (n : Int) (hn0 : 0 ≤ n) (hn : n ≤ 1000) :
    Calls Tryd.prog 100 #[.pointer (some ⟨rb, 0, none⟩), .int .i64 n] w fun e w' => (∃ v : Value, e = .returned v ∧ ∃ l : List Int, Gro 3 w.heap.size w' v l ∧ l.length = n.toNat ∧ (∀ x, x ∈ l → 0 ≤ x ∧ x < 65536)) ∧ Rdr rb base (P + 3 * n.toNat) w' ∧ Turn [rb] w w' := by
  obtain ⟨i0, hi, hz0, hz1, hz2⟩ := info_parts infInt
  have HI := hide hi
  have HZ0 := hide hz0
  have HZ1 := hide hz1
  have HZ2 := hide hz2
  clear hi hz0 hz1 hz2
  have hlt := h.lt
  have hlt1 := hlt.1
  have hlt2 := hlt.2
  have hG0 := Gro.empty (α := Int) w 3
  have hT0 : Turn [rb] w (w.alloc (.cells #[] 3)) := (Turn.refl _ _).alloc _
  have hR0 : Rdr rb base P (w.alloc (.cells #[] 3)) := h.ext ((Ext.refl w).alloc _)
  go_enter Tryd.func100, Tryd.ntmps100
  go_wp2
  go_loopw [5, 6] (fun vo vk wz => ∃ (l : List Int) (A : Option Addr) (c : Nat), vo = .slice A l.length c ∧ vk = .int .i64 (l.length : Int) ∧ (l.length : Int) ≤ n ∧ Hid (∀ x, x ∈ l → 0 ≤ x ∧ x < 65536) ∧ Gro 3 w.heap.size wz (.slice A l.length c) l ∧ Rdr rb base (P + 3 * l.length) wz ∧ Turn [rb] w wz) (fun _ vk _ => n.toNat - (intOf vk).toNat)
  case atStart => exact ⟨[], _, 0, rfl, rfl, by simpa using hn0, by intro x hx; simp at hx, hG0, hR0, hT0⟩
  case round =>
    obtain ⟨w1, hwr⟩ : ∃ w1 : World, w1 = wr := ⟨_, rfl⟩
    subst hwr
    obtain ⟨l, A, c, rfl, rfl, hkn, HB, hG, hR, hT⟩ := hrel
    have hGl := hG.lt
    have hsw := hT.size
    by_cases hlk : (l.length : Int) < n
    · have q1 : decide ((l.length : Int) < n) = true := decide_eq_true hlk
      go_wp2_with fail
      refine (l20Word_any rb base _ _ hR (by omega)).mono ?_
      rintro e w2 ⟨⟨v, rfl, hv0, hv1⟩, hR2, hy⟩
      have hG2 := hG.turn hy (fun q hq => by have := (hGl q hq).1; simp; omega)
      obtain ⟨wa, Fs, xs, h00, hA⟩ := hG2
      have hAf := hA.flat
      have hfit : Fits v := by unfold Fits; omega
      have hm := hA.app.row.1
      go_wp2_with (at_builtin; go_must (refine wpList_append_push2 (α := Int) (w0 := wa) (wr := w2) rfl _ _ 39 rfl i0 _ 8 Tryd.underlying39 HI.out HZ0.out HZ1.out HZ2.out rfl (by decide) hA.app rfl v #[.int .i64 v] 3 [] _ rfl Ext.auto ⟨⟨rfl, hfit⟩, rfl⟩ (Fr.nil _ _) (by repeat (first | (exact fun _ h => absurd h (List.not_mem_nil)) | (refine List.forall_mem_cons.2 ⟨rfl, ?_⟩))) (by unfold maxLen; omega) (by omega) ?_); intro v' w9 xs' hA9 hg9 hb9; have hG9 := Gro.push h00 (fun q hq => (hGl q hq).1) (by simp; have := hy.size; omega) hAf hA9 hb9; have hT9 := (Turn.of_grown (a := w2) (b := (w2.alloc (.cells #[.int .i64 v] 3))) Ext.auto hg9); obtain ⟨A9, c9, rfl, hl9, hm9⟩ := hG9.form; have hR9 := hR2.turn hT9 (fun q hq => by have := (hGl q (by simpa using hq)).1; omega); have hTw := (hT.trans hy).trans hT9 (fun q hq => .inr (hGl q (by simpa using hq)).1))
      have HB9 := hide (show ∀ x, x ∈ l ++ [v] → 0 ≤ x ∧ x < 65536 from fun x hx => by
        rcases List.mem_append.1 hx with hx | hx
        · exact HB.out x hx
        · simp at hx; subst hx; exact ⟨by omega, by omega⟩)
      have hll : (l ++ [v]).length = l.length + 1 := by simp
      go_round
      case rel => exact ⟨l ++ [v], A9, c9, by rw [hll], by rw [hll]; go_num, by omega, HB9, hG9, hR9.up (by omega), hTw⟩
      case measure => (simp [intOf]; try omega)
    · have q1 : decide ((l.length : Int) < n) = false := decide_eq_false hlk
      go_wp2
      go_ret
      exact ⟨⟨_, rfl, l, hG, by omega, HB.out⟩, hR.up (by omega), hT⟩

set_option maxHeartbeats 16000000 in
theorem l20Irqs_any (rb base P : Nat) (w : World) (h : Rdr rb base P w) (hP : P ≤ 1099511610000)  :
    Calls Tryd.prog 102 #[.pointer (some ⟨rb, 0, none⟩)] w fun e w' => (∃ v : Value, e = .returned v ∧ ∃ l : List Int, Gro 3 w.heap.size w' v l ∧ l.length ≤ 5 ∧ (∀ x, x ∈ l → 0 ≤ x ∧ x < 50)) ∧ Rdr rb base (P + 6) w' ∧ Turn [rb] w w' := by
  obtain ⟨i0, hi, hz0, hz1, hz2⟩ := info_parts infInt
  have HI := hide hi
  have HZ0 := hide hz0
  have HZ1 := hide hz1
  have HZ2 := hide hz2
  clear hi hz0 hz1 hz2
  have hlt := h.lt
  have hlt1 := hlt.1
  have hlt2 := hlt.2
  have hG0 := Gro.empty (α := Int) w 3
  have hT0 : Turn [rb] w (w.alloc (.cells #[] 3)) := (Turn.refl _ _).alloc _
  have hR0 : Rdr rb base P (w.alloc (.cells #[] 3)) := h.ext ((Ext.refl w).alloc _)
  go_enter Tryd.func102, Tryd.ntmps102
  go_wp2_with fail
  refine (pick_any rb base _ _ hR0 (by omega) 5 (by omega) (by omega)).mono ?_
  rintro e w0 ⟨⟨m, rfl, hm0, hm1⟩, hRm, hym⟩
  have hm5 : m < 5 := by omega
  clear hm1
  have hTm := hT0.trans hym
  have hGm := hG0.turn hym (fun q hq => by simp [Value.ownBlock] at hq; subst hq; simp; omega)
  go_wp2
  go_loopw [3, 4] (fun vo vk wz => ∃ (l : List Int) (A : Option Addr) (c : Nat), vo = .slice A l.length c ∧ (∃ r : Int, vk = .int .i64 r ∧ 0 ≤ r ∧ r + l.length ≤ 5) ∧ Hid (∀ x, x ∈ l → 0 ≤ x ∧ x < 50) ∧ Gro 3 w.heap.size wz (.slice A l.length c) l ∧ Rdr rb base (P + 1 + l.length) wz ∧ Turn [rb] w wz) (fun _ vk _ => (intOf vk).toNat)
  case atStart => exact ⟨[], _, 0, rfl, ⟨m, rfl, by omega, by simp; omega⟩, by intro x hx; simp at hx, hGm, hRm.up (by omega), hTm⟩
  case round =>
    obtain ⟨w1, hwr⟩ : ∃ w1 : World, w1 = wr := ⟨_, rfl⟩
    subst hwr
    obtain ⟨l, A, c, rfl, ⟨r, rfl, hr0, hrk⟩, HB, hG, hR, hT⟩ := hrel
    have hGl := hG.lt
    have hsw := hT.size
    by_cases hlk : 0 < r
    · have q1 : decide (0 < r) = true := decide_eq_true hlk
      go_wp2_with fail
      refine (pick_any rb base _ _ hR (by omega) 50 (by omega) (by omega)).mono ?_
      rintro e w2 ⟨⟨v, rfl, hv0, hv1'⟩, hR2, hy⟩
      have hv1 : v < 50 := by omega
      clear hv1'
      have hG2 := hG.turn hy (fun q hq => by have := (hGl q hq).1; simp; omega)
      obtain ⟨wa, Fs, xs, h00, hA⟩ := hG2
      have hAf := hA.flat
      have hfit : Fits v := by unfold Fits; omega
      have hm := hA.app.row.1
      go_wp2_with (at_builtin; go_must (refine wpList_append_push2 (α := Int) (w0 := wa) (wr := w2) rfl _ _ 39 rfl i0 _ 8 Tryd.underlying39 HI.out HZ0.out HZ1.out HZ2.out rfl (by decide) hA.app rfl v #[.int .i64 v] 3 [] _ rfl Ext.auto ⟨⟨rfl, hfit⟩, rfl⟩ (Fr.nil _ _) (by repeat (first | (exact fun _ h => absurd h (List.not_mem_nil)) | (refine List.forall_mem_cons.2 ⟨rfl, ?_⟩))) (by unfold maxLen; omega) (by omega) ?_); intro v' w9 xs' hA9 hg9 hb9; have hG9 := Gro.push h00 (fun q hq => (hGl q hq).1) (by simp; have := hy.size; omega) hAf hA9 hb9; have hT9 := (Turn.of_grown (a := w2) (b := (w2.alloc (.cells #[.int .i64 v] 3))) Ext.auto hg9); obtain ⟨A9, c9, rfl, hl9, hm9⟩ := hG9.form; have hR9 := hR2.turn hT9 (fun q hq => by have := (hGl q (by simpa using hq)).1; omega); have hTw := (hT.trans hy).trans hT9 (fun q hq => .inr (hGl q (by simpa using hq)).1))
      have HB9 := hide (show ∀ x, x ∈ l ++ [v] → 0 ≤ x ∧ x < 50 from fun x hx => by
        rcases List.mem_append.1 hx with hx | hx
        · exact HB.out x hx
        · simp at hx; subst hx; exact ⟨by omega, by omega⟩)
      have hll : (l ++ [v]).length = l.length + 1 := by simp
      go_round
      case rel => exact ⟨l ++ [v], A9, c9, by rw [hll], ⟨r - 1, by go_num, by omega, by omega⟩, HB9, hG9, hR9.up (by omega), hTw⟩
      case measure => (simp [intOf]; try omega)
    · have q1 : decide (0 < r) = false := decide_eq_false hlk
      go_wp2
      go_ret
      exact ⟨⟨_, rfl, l, hG, by omega, HB.out⟩, hR.up (by omega), hT⟩

theorem Sl.take_ {α : Type} [Rep α] {w : World} {S : Nat → Prop} {A : Option Addr} {n c : Nat} {l : List α} (h : Sl w S (.slice A n c) l) {k : Nat} (hk : k ≤ l.length) : Sl w S (.slice A k c) (l.take k) := by
  obtain ⟨A', c', e, h1, h2, h3, h4⟩ := h
  injection e with e1 e2 e3
  subst e1 e3
  have hl : (l.take k).length = k := by rw [List.length_take]; omega
  refine ⟨A, c, by rw [hl], by rw [hl]; omega, h2, h3, fun hne => ?_⟩
  obtain ⟨b, off, q1, q2, q3⟩ := h4 (by intro q; subst q; exact hne (by simp))
  refine ⟨b, off, q1, q2, fun i a ha => ?_⟩
  rw [List.getElem?_take] at ha
  split at ha
  · exact q3 i a ha
  · simp at ha
theorem Rdr.new {w : World} {A : Option Addr} {c : Nat} {code : List UInt8} (h : Sl w (Old w) (.slice A code.length c) code) (hn : code.length ≤ 2000) (T : TypeId) : Rdr w.heap.size (w.heap.size + 1) 0 (w.alloc (.cells #[.slice A code.length c, .int .i64 0] T)) :=
  ⟨A, c, 0, code, {
    bx := Bx.new w #[.slice A code.length c, .int .i64 0] T
    fz := fz_new w #[.slice A code.length c, .int .i64 0] T rfl
    le := Nat.le_refl _, lt := by omega, bs := by simp
    sl := h.keep ((Ext.refl w).alloc _).old (fun b hb => ⟨Nat.lt_succ_of_lt hb, fun e => by subst e; exact absurd hb (Nat.lt_irrefl _)⟩)
    ln := hn }⟩

theorem l20Open_any (code : List UInt8) (v : Value) (w : World) (h : Sl w (Old w) v code) : Calls Tryd.prog 46 #[v] w fun e w' => e = .returned (.pointer (some ⟨w.heap.size, 0, none⟩)) ∧ Rdr w.heap.size (w.heap.size + 1) 0 w' ∧ Ext w w' := by
  obtain ⟨A, c, rfl, hl, hm⟩ := h.form
  unfold maxLen at hm
  by_cases hb : 2000 < code.length
  · have q1 : decide (2000 < (code.length : Int)) = true := decide_eq_true (by omega)
    have h2 := h.take_ (k := 2000) (by omega)
    have hl2 : (code.take 2000).length = 2000 := by rw [List.length_take]; omega
    have hR := Rdr.new (A := A) (c := c) (by rw [hl2]; exact h2) (by omega) 95
    rw [hl2] at hR
    have hc2 : 2000 ≤ c := by omega
    go_enter Tryd.func46, Tryd.ntmps46
    go_wp2
    go_ret
    exact ⟨rfl, hR, Ext.auto⟩
  · have q1 : decide (2000 < (code.length : Int)) = false := decide_eq_false (by omega)
    have hR := Rdr.new h (by omega) 95
    go_enter Tryd.func46, Tryd.ntmps46
    go_wp2
    go_ret
    exact ⟨rfl, hR, Ext.auto⟩

end Go.Proofs.YtokibcicoomceaaDoor
