/-
  A small loop is drawn.
-/
import Derived.Test.YtokibcicoomceaaDoorDrawO
import Derived.Test.YtokibcicoomceaaDoorByteLib
import Derived.Test.YtokibcicoomceaaDoorTo
import Derived.Deep.DeepCutAuto
namespace Go.Proofs.YtokibcicoomceaaDoor
open Go.RowKit

set_option linter.unusedVariables false
set_option linter.unusedSimpArgs false
set_option maxRecDepth 100000

theorem Gro.more {α : Type} [Flat α] {e : TypeId} {lo : Nat} {wa W w9 : World} {v v' : Value} {l l2 : List α} {Fs' : List (List Nat)} {xs' : List Value} (h0 : wa.heap.size = 0) (hl : ∀ q, v.ownBlock = some q → lo ≤ q) (hW : lo ≤ W.heap.size)
    (h9 : App wa w9 e v' (l ++ l2) Fs' xs') (hb : v'.ownBlock = v.ownBlock ∨ v'.ownBlock = some W.heap.size) : Gro e lo w9 v' (l ++ l2) :=
  ⟨wa, _, xs', h0, ⟨h9.flat, fun q hq => by
    rcases hb with hb | hb
    · exact hl q (hb ▸ hq)
    · rw [hb] at hq; injection hq with hq; omega, by simp⟩⟩

set_option maxHeartbeats 16000000 in
theorem l20Body_any (rb base P : Nat) (w : World) (h : Rdr rb base P w) (hP : P ≤ 1099511610000) (at_ : Int) (ha0 : 0 ≤ at_) (ha1 : at_ ≤ 1000) :
    Calls Tryd.prog 103 #[.pointer (some ⟨rb, 0, none⟩), .int .i64 at_] w fun e w' => (∃ v : Value, e = .returned v ∧ ∃ L : List InsIns, Gro 30 w.heap.size w' v L ∧ L.length ≤ 10 ∧ (∀ i, i ∈ L → InsIn i)) ∧ Rdr rb base (P + 120) w' ∧ Turn [rb] w w' := by
  have hlt := h.lt
  have hlt1 := hlt.1
  have hlt2 := hlt.2
  clear hlt
  obtain ⟨i0, hi, hz0, hz1, hz2⟩ := info_parts infInsIns
  have HI := hide hi
  have HZ0 := hide hz0
  have HZ1 := hide hz1
  have HZ2 := hide hz2
  clear hi hz0 hz1 hz2
  go_enter Tryd.func103, Tryd.ntmps103
  go_upto_region 1 with fail
  have he0 : Ext w w := Ext.refl _
  have hs0 : w.heap.size ≤ w.heap.size := Nat.le_refl _
  have hR0 : Rdr rb base P w := h.ext he0
  have hT0 : Turn [rb] w w := Turn.of_ext he0 _
  go_wp2_with fail
  refine (pick_any rb base _ _ (Rdr.hold hR0) (by omega) 6 (by omega) (by omega)).mono ?_
  rintro e w1 ⟨⟨nn, rfl, lnn, qnn⟩, hR1, hy⟩
  have unn : nn < 6 := by omega
  clear qnn
  have hs1 := hy.size
  try simp at hs1
  have hT1 : Turn [rb] w w1 := (Turn.hold hT0).trans hy
  go_wp2_with fail
  refine (pick_any rb base _ _ (Rdr.hold hR1) (by omega) 3 (by omega) (by omega)).mono ?_
  rintro e w2 ⟨⟨z, rfl, lz, qz⟩, hR2, hy⟩
  have uz : z < 3 := by omega
  clear qz
  have hs2 := hy.size
  try simp at hs2
  have hT2 : Turn [rb] w w2 := (Turn.hold hT1).trans hy
  have hin3 : ∀ i, i ∈ ([⟨1, 0, 0, 1 + nn⟩, ⟨1, 1, 0, 1⟩, ⟨1, 2, 0, z⟩] : List InsIns) → InsIn i := by
    intro i hi
    simp at hi
    rcases hi with rfl | rfl | rfl <;> (unfold InsIn; simp only []; omega)
  have hG0 := Gro.lit w2 30 [⟨1, 0, 0, 1 + nn⟩, ⟨1, 1, 0, 1⟩, ⟨1, 2, 0, z⟩] 3 rfl (by simp) (fun i hi => (hin3 i hi).ok) _ rfl
  go_wp2_with fail
  refine (pick_any rb base _ _ (Rdr.hold hR2) (by omega) 4 (by omega) (by omega)).mono ?_
  rintro e w3 ⟨⟨kk, rfl, lkk, qkk⟩, hR3, hy⟩
  have ukk : kk < 4 := by omega
  clear qkk
  have hGm := (hG0.turn hy (fun q hq => by simp [Value.ownBlock] at hq; subst hq; simp; omega)).down (lo' := w.heap.size) (by omega)
  have hs3 := hy.size
  try simp at hs3
  have hT3 : Turn [rb] w w3 := (Turn.hold hT2).trans hy
  clear hG0
  go_wp2
  have HIN3 := hide hin3
  go_loopw [6, 7, 8] (fun v6 v7 _ wz => ∃ (L : List InsIns) (A : Option Addr) (c : Nat) (r : Int), v6 = .slice A L.length c ∧ v7 = .int .i64 r ∧ 0 ≤ r ∧ r + L.length ≤ 7 ∧ Hid (∀ i, i ∈ L → InsIn i) ∧ Gro 30 w.heap.size wz (.slice A L.length c) L ∧ Rdr rb base (P + 10 * L.length) wz ∧ Turn [rb] w wz) (fun _ v7 _ _ => (intOf v7).toNat)
  case atStart => exact ⟨[⟨1, 0, 0, 1 + nn⟩, ⟨1, 1, 0, 1⟩, ⟨1, 2, 0, z⟩], _, 3, kk, rfl, rfl, by omega, by simp; omega, HIN3, hGm, (Rdr.hold hR3).up (by simp), hT3⟩
  case round =>
    obtain ⟨w4, hwr⟩ : ∃ w4 : World, w4 = wr := ⟨_, rfl⟩
    subst hwr
    clear hGm hR3 hT3 hR2 hT2 hR1 hT1
    obtain ⟨L, A, c, r, rfl, rfl, hr0, hrL, HB, hG, hR, hT⟩ := hrel
    have hGl := hG.lt
    have hsw := hT.size
    have hm1 := hG.form
    by_cases hlr : 0 < r
    · 
      have q1 : decide (0 < r) = true := decide_eq_true hlr
      go_wp2_with fail
      refine (l20Flat_any rb base _ _ hR (by omega)).mono ?_
      rintro e w5 ⟨⟨i, rfl, hi⟩, hR5, hy⟩
      have hs5 := hy.size
      have hG5 := hG.turn hy (fun q hq => by have := (hGl q hq).1; simp; omega)
      have hT5 := hT.trans hy
      clear hy hG hR hT
      go_upto_region 7 with fail
      have hR6 := Rdr.alloc hR5 (Obj.cells #[.int .i64 i.op, .int .i64 i.d, .int .i64 i.a, .int .i64 i.k] 30)
      have hT6 : Turn [rb] w (w5.alloc (Obj.cells #[.int .i64 i.op, .int .i64 i.d, .int .i64 i.a, .int .i64 i.k] 30)) := Turn.hold hT5
      have hG6 := hG5.ext ((Ext.refl w5).alloc (Obj.cells #[.int .i64 i.op, .int .i64 i.d, .int .i64 i.a, .int .i64 i.k] 30))
      have hs6 : w5.heap.size + 1 ≤ (w5.alloc (Obj.cells #[.int .i64 i.op, .int .i64 i.d, .int .i64 i.a, .int .i64 i.k] 30)).heap.size := by simp
      have hBx : Bx (w5.alloc (Obj.cells #[.int .i64 i.op, .int .i64 i.d, .int .i64 i.a, .int .i64 i.k] 30)) w5.heap.size [.int .i64 i.op, .int .i64 i.d, .int .i64 i.a, .int .i64 i.k] := Bx.new w5 #[.int .i64 i.op, .int .i64 i.d, .int .i64 i.a, .int .i64 i.k] 30
      have hFx : ∀ oo, (w5.alloc (Obj.cells #[.int .i64 i.op, .int .i64 i.d, .int .i64 i.a, .int .i64 i.k] 30)).frozen? ⟨w5.heap.size, oo, none⟩ = false := fz_new w5 #[.int .i64 i.op, .int .i64 i.d, .int .i64 i.a, .int .i64 i.k] 30 rfl
      have hnx : ∀ q, (Value.slice A L.length c).ownBlock = some q → q ≠ w5.heap.size := fun q hq e => by have := (hG5.lt q hq).2; omega
      generalize (w5.alloc (Obj.cells #[.int .i64 i.op, .int .i64 i.d, .int .i64 i.a, .int .i64 i.k] 30)) = w6 at *
      clear hG5 hR5 hT5
      have yx : w5.heap.size < w6.heap.size := by omega
      have xx0 := hBx 0 _ rfl
      have xx1 := hBx 1 _ rfl
      have xx2 := hBx 2 _ rfl
      have xx3 := hBx 3 _ rfl
      have fx := hFx
      have hi2 := hi
      unfold InsIn at hi2
      by_cases c1 : i.d < 2
      rotate_left
      · 
        have q2 : decide (i.d < 2) = false := decide_eq_false c1
        have hok9 : InsIns.Ok ⟨i.op, i.d, i.a, i.k⟩ := InsIn.ok (by unfold InsIn; simp only []; omega)
        have hin9 : InsIn ⟨i.op, i.d, i.a, i.k⟩ := by unfold InsIn; simp only []; omega
        obtain ⟨wa, Fs, xs, h00, hA⟩ := hG6
        have hAf := hA.flat
        go_wp2_with (at_builtin; go_must (refine wpList_append_push2 (α := InsIns) (w0 := wa) (wr := w6) rfl _ _ 23 rfl i0 _ 32 Tryd.underlying23 HI.out HZ0.out HZ1.out HZ2.out rfl (by decide) hA.app rfl (⟨i.op, i.d, i.a, i.k⟩) #[.int .i64 i.op, .int .i64 i.d, .int .i64 i.a, .int .i64 i.k] 30 [] _ rfl Ext.auto ⟨rfl, hok9, rfl⟩ (Fr.nil _ _) (by repeat (first | (exact fun _ h => absurd h (List.not_mem_nil)) | (refine List.forall_mem_cons.2 ⟨rfl, ?_⟩))) (by unfold maxLen; omega) (by omega) ?_); intro v' w9 xs' hA9 hg9 hb9; have hG9 := Gro.push h00 (fun q hq => (hGl q hq).1) (by simp; omega) hAf hA9 hb9; have hT9 := (Turn.of_grown (a := w6) (b := (w6.alloc (.cells #[.int .i64 i.op, .int .i64 i.d, .int .i64 i.a, .int .i64 i.k] 30))) Ext.auto hg9); obtain ⟨A9, c9, rfl, hl9, hm9⟩ := hG9.form)
        have hR9 := hR6.turn hT9 (fun q hq => by have := (hGl q (by simpa using hq)).1; omega)
        have hTw := hT6.trans hT9 (fun q hq => .inr (hGl q (by simpa using hq)).1)
        have HB9 := hide (show ∀ j, j ∈ L ++ [⟨i.op, i.d, i.a, i.k⟩] → InsIn j from fun j hj => by
          rcases List.mem_append.1 hj with hj | hj
          · exact HB.out j hj
          · simp at hj; subst hj; exact hin9)
        have hll : (L ++ [(⟨i.op, i.d, i.a, i.k⟩ : InsIns)]).length = L.length + 1 := by simp
        go_round
        case rel => exact ⟨L ++ [⟨i.op, i.d, i.a, i.k⟩], A9, c9, r - 1, by rw [hll], by go_num, by omega, by rw [hll]; omega, HB9, hG9, hR9.up (by rw [hll]; omega), hTw⟩
        case measure => (simp [intOf]; try omega)
      have q2 : decide (i.d < 2) = true := decide_eq_true c1
      cases c2 : (i.op != 10)
      · 
        have hok9 : InsIns.Ok ⟨i.op, i.d, i.a, i.k⟩ := InsIn.ok (by unfold InsIn; simp only []; omega)
        have hin9 : InsIn ⟨i.op, i.d, i.a, i.k⟩ := by unfold InsIn; simp only []; omega
        obtain ⟨wa, Fs, xs, h00, hA⟩ := hG6
        have hAf := hA.flat
        go_wp2_with (at_builtin; go_must (refine wpList_append_push2 (α := InsIns) (w0 := wa) (wr := w6) rfl _ _ 23 rfl i0 _ 32 Tryd.underlying23 HI.out HZ0.out HZ1.out HZ2.out rfl (by decide) hA.app rfl (⟨i.op, i.d, i.a, i.k⟩) #[.int .i64 i.op, .int .i64 i.d, .int .i64 i.a, .int .i64 i.k] 30 [] _ rfl Ext.auto ⟨rfl, hok9, rfl⟩ (Fr.nil _ _) (by repeat (first | (exact fun _ h => absurd h (List.not_mem_nil)) | (refine List.forall_mem_cons.2 ⟨rfl, ?_⟩))) (by unfold maxLen; omega) (by omega) ?_); intro v' w9 xs' hA9 hg9 hb9; have hG9 := Gro.push h00 (fun q hq => (hGl q hq).1) (by simp; omega) hAf hA9 hb9; have hT9 := (Turn.of_grown (a := w6) (b := (w6.alloc (.cells #[.int .i64 i.op, .int .i64 i.d, .int .i64 i.a, .int .i64 i.k] 30))) Ext.auto hg9); obtain ⟨A9, c9, rfl, hl9, hm9⟩ := hG9.form)
        have hR9 := hR6.turn hT9 (fun q hq => by have := (hGl q (by simpa using hq)).1; omega)
        have hTw := hT6.trans hT9 (fun q hq => .inr (hGl q (by simpa using hq)).1)
        have HB9 := hide (show ∀ j, j ∈ L ++ [⟨i.op, i.d, i.a, i.k⟩] → InsIn j from fun j hj => by
          rcases List.mem_append.1 hj with hj | hj
          · exact HB.out j hj
          · simp at hj; subst hj; exact hin9)
        have hll : (L ++ [(⟨i.op, i.d, i.a, i.k⟩ : InsIns)]).length = L.length + 1 := by simp
        go_round
        case rel => exact ⟨L ++ [⟨i.op, i.d, i.a, i.k⟩], A9, c9, r - 1, by rw [hll], by go_num, by omega, by rw [hll]; omega, HB9, hG9, hR9.up (by rw [hll]; omega), hTw⟩
        case measure => (simp [intOf]; try omega)
      cases c3 : (i.op != 14)
      · 
        have hok9 : InsIns.Ok ⟨i.op, i.d, i.a, i.k⟩ := InsIn.ok (by unfold InsIn; simp only []; omega)
        have hin9 : InsIn ⟨i.op, i.d, i.a, i.k⟩ := by unfold InsIn; simp only []; omega
        obtain ⟨wa, Fs, xs, h00, hA⟩ := hG6
        have hAf := hA.flat
        go_wp2_with (at_builtin; go_must (refine wpList_append_push2 (α := InsIns) (w0 := wa) (wr := w6) rfl _ _ 23 rfl i0 _ 32 Tryd.underlying23 HI.out HZ0.out HZ1.out HZ2.out rfl (by decide) hA.app rfl (⟨i.op, i.d, i.a, i.k⟩) #[.int .i64 i.op, .int .i64 i.d, .int .i64 i.a, .int .i64 i.k] 30 [] _ rfl Ext.auto ⟨rfl, hok9, rfl⟩ (Fr.nil _ _) (by repeat (first | (exact fun _ h => absurd h (List.not_mem_nil)) | (refine List.forall_mem_cons.2 ⟨rfl, ?_⟩))) (by unfold maxLen; omega) (by omega) ?_); intro v' w9 xs' hA9 hg9 hb9; have hG9 := Gro.push h00 (fun q hq => (hGl q hq).1) (by simp; omega) hAf hA9 hb9; have hT9 := (Turn.of_grown (a := w6) (b := (w6.alloc (.cells #[.int .i64 i.op, .int .i64 i.d, .int .i64 i.a, .int .i64 i.k] 30))) Ext.auto hg9); obtain ⟨A9, c9, rfl, hl9, hm9⟩ := hG9.form)
        have hR9 := hR6.turn hT9 (fun q hq => by have := (hGl q (by simpa using hq)).1; omega)
        have hTw := hT6.trans hT9 (fun q hq => .inr (hGl q (by simpa using hq)).1)
        have HB9 := hide (show ∀ j, j ∈ L ++ [⟨i.op, i.d, i.a, i.k⟩] → InsIn j from fun j hj => by
          rcases List.mem_append.1 hj with hj | hj
          · exact HB.out j hj
          · simp at hj; subst hj; exact hin9)
        have hll : (L ++ [(⟨i.op, i.d, i.a, i.k⟩ : InsIns)]).length = L.length + 1 := by simp
        go_round
        case rel => exact ⟨L ++ [⟨i.op, i.d, i.a, i.k⟩], A9, c9, r - 1, by rw [hll], by go_num, by omega, by rw [hll]; omega, HB9, hG9, hR9.up (by rw [hll]; omega), hTw⟩
        case measure => (simp [intOf]; try omega)
      go_upto_region 9 with fail
      have hBn : Bx (w6.setCell ⟨w5.heap.size, 1, none⟩ (.int .i64 3)) w5.heap.size [.int .i64 i.op, .int .i64 3, .int .i64 i.a, .int .i64 i.k] := by have := Bx.put hBx (j := 1) (by simp) (.int .i64 3); simpa using this
      have hR7 := Rdr.set hR6 (p := ⟨w5.heap.size, 1, none⟩) (by show base ≤ w5.heap.size; omega) (.int .i64 3)
      have hT7 := Turn.set hT6 (p := ⟨w5.heap.size, 1, none⟩) (.inr (by show w.heap.size ≤ w5.heap.size; omega)) (.int .i64 3)
      have hG7 := hG6.turn ((Turn.refl [w5.heap.size] w6).set (p := ⟨w5.heap.size, 1, none⟩) (.inl (by simp)) (.int .i64 3)) (fun q hq => by simpa using hnx q hq)
      have hs7 : w6.heap.size ≤ (w6.setCell ⟨w5.heap.size, 1, none⟩ (.int .i64 3)).heap.size := by simp
      clear xx0 xx1 xx2 xx3 hG6 hR6 hT6
      generalize (w6.setCell ⟨w5.heap.size, 1, none⟩ (.int .i64 3)) = w7 at *
      have hG6 := hG7
      have hR6 := hR7
      have hT6 := hT7
      have xx0 := hBn 0 _ rfl
      have xx1 := hBn 1 _ rfl
      have xx2 := hBn 2 _ rfl
      have xx3 := hBn 3 _ rfl
      have yx7 : w5.heap.size < w7.heap.size := by omega
      have hok9 : InsIns.Ok ⟨i.op, 3, i.a, i.k⟩ := InsIn.ok (by unfold InsIn; simp only []; omega)
      have hin9 : InsIn ⟨i.op, 3, i.a, i.k⟩ := by unfold InsIn; simp only []; omega
      obtain ⟨wa, Fs, xs, h00, hA⟩ := hG6
      have hAf := hA.flat
      go_wp2_with (at_builtin; go_must (refine wpList_append_push2 (α := InsIns) (w0 := wa) (wr := w7) rfl _ _ 23 rfl i0 _ 32 Tryd.underlying23 HI.out HZ0.out HZ1.out HZ2.out rfl (by decide) hA.app rfl (⟨i.op, 3, i.a, i.k⟩) #[.int .i64 i.op, .int .i64 3, .int .i64 i.a, .int .i64 i.k] 30 [] _ rfl Ext.auto ⟨rfl, hok9, rfl⟩ (Fr.nil _ _) (by repeat (first | (exact fun _ h => absurd h (List.not_mem_nil)) | (refine List.forall_mem_cons.2 ⟨rfl, ?_⟩))) (by unfold maxLen; omega) (by omega) ?_); intro v' w9 xs' hA9 hg9 hb9; have hG9 := Gro.push h00 (fun q hq => (hGl q hq).1) (by simp; omega) hAf hA9 hb9; have hT9 := (Turn.of_grown (a := w7) (b := (w7.alloc (.cells #[.int .i64 i.op, .int .i64 3, .int .i64 i.a, .int .i64 i.k] 30))) Ext.auto hg9); obtain ⟨A9, c9, rfl, hl9, hm9⟩ := hG9.form)
      have hR9 := hR6.turn hT9 (fun q hq => by have := (hGl q (by simpa using hq)).1; omega)
      have hTw := hT6.trans hT9 (fun q hq => .inr (hGl q (by simpa using hq)).1)
      have HB9 := hide (show ∀ j, j ∈ L ++ [⟨i.op, 3, i.a, i.k⟩] → InsIn j from fun j hj => by
        rcases List.mem_append.1 hj with hj | hj
        · exact HB.out j hj
        · simp at hj; subst hj; exact hin9)
      have hll : (L ++ [(⟨i.op, 3, i.a, i.k⟩ : InsIns)]).length = L.length + 1 := by simp
      go_round
      case rel => exact ⟨L ++ [⟨i.op, 3, i.a, i.k⟩], A9, c9, r - 1, by rw [hll], by go_num, by omega, by rw [hll]; omega, HB9, hG9, hR9.up (by rw [hll]; omega), hTw⟩
      case measure => (simp [intOf]; try omega)
    · 
      have q1 : decide (0 < r) = false := decide_eq_false hlr
      have hin2 : ∀ i, i ∈ ([⟨4, 0, 0, 1⟩, ⟨7, 2, 2, 2⟩, ⟨12, 2, 0, at_ + 3⟩] : List InsIns) → InsIn i := by
        intro i hi
        simp at hi
        rcases hi with rfl | rfl | rfl <;> (unfold InsIn; simp only []; omega)
      have hS2 := (Gro.lit w4 30 [⟨4, 0, 0, 1⟩, ⟨7, 2, 2, 2⟩, ⟨12, 2, 0, at_ + 3⟩] 3 rfl (by simp) (fun i hi => (hin2 i hi).ok) _ rfl).sl
      have hcs : ([⟨4, 0, 0, 1⟩, ⟨7, 2, 2, 2⟩, ⟨12, 2, 0, at_ + 3⟩] : List InsIns).flatMap cellsI = [.int .i64 4, .int .i64 0, .int .i64 0, .int .i64 1, .int .i64 7, .int .i64 2, .int .i64 2, .int .i64 2, .int .i64 12, .int .i64 2, .int .i64 0, .int .i64 (at_ + 3)] := rfl
      rw [hcs] at hS2
      clear hcs
      have hG2 := hG.ext ((Ext.refl w4).alloc (.cells #[.int .i64 4, .int .i64 0, .int .i64 0, .int .i64 1, .int .i64 7, .int .i64 2, .int .i64 2, .int .i64 2, .int .i64 12, .int .i64 2, .int .i64 0, .int .i64 (at_ + 3)] 30))
      obtain ⟨wa, Fs, xs, h00, hA⟩ := hG2
      go_wp2_with (at_builtin; go_must (refine wpList_append_flat2 (α := InsIns) (w0 := wa) rfl _ _ 23 rfl i0 _ 32 Tryd.underlying23 HI.out HZ0.out HZ1.out HZ2.out rfl hA.app rfl _ [⟨4, 0, 0, 1⟩, ⟨7, 2, 2, 2⟩, ⟨12, 2, 0, at_ + 3⟩] _ rfl hS2 (by unfold maxLen; simp; omega) (by simp; omega) ?_); intro v' w9 Fs' xs' hA9 hg9 hb9)
      have hG9 := Gro.more h00 (fun q hq => (hGl q hq).1) (by simp; omega) hA9 hb9
      have hT9 := (Turn.of_grown (a := w4) (b := (w4.alloc (.cells #[.int .i64 4, .int .i64 0, .int .i64 0, .int .i64 1, .int .i64 7, .int .i64 2, .int .i64 2, .int .i64 2, .int .i64 12, .int .i64 2, .int .i64 0, .int .i64 (at_ + 3)] 30))) Ext.auto hg9)
      obtain ⟨A9, c9, rfl, -, -⟩ := hG9.form
      go_wp2
      go_ret
      exact ⟨⟨.slice A9 (L ++ ([⟨4, 0, 0, 1⟩, ⟨7, 2, 2, 2⟩, ⟨12, 2, 0, at_ + 3⟩] : List InsIns)).length c9, rfl, L ++ [⟨4, 0, 0, 1⟩, ⟨7, 2, 2, 2⟩, ⟨12, 2, 0, at_ + 3⟩], hG9, by simp; omega, fun i hi => by
        rcases List.mem_append.1 hi with hi | hi
        · exact HB.out i hi
        · exact hin2 i hi⟩, (hR.turn hT9 (fun q hq => by have := (hGl q (by simpa using hq)).1; omega)).up (by omega), hT.trans hT9 (fun q hq => .inr (hGl q (by simpa using hq)).1)⟩

end Go.Proofs.YtokibcicoomceaaDoor
