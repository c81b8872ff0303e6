/-
  DrawL
-/
import Derived.Test.YteaacelfnkiboaaYRoom0Lib
import Derived.Deep.DeepCutAuto
namespace Go.Proofs.Yteaacelfnkiboaa
open Go.RowKit

set_option linter.unusedVariables false
set_option linter.unusedSimpArgs false
set_option maxRecDepth 100000

set_option maxHeartbeats 16000000 in
theorem l21List_any (rb base P : Nat) (w : World) (h : Rdr rb base P w) (hP : P ≤ 1099511610000)  :
    Calls Try.prog 80 #[.pointer (some ⟨rb, 0, none⟩)] w fun e w' => (∃ v : Value, e = .returned v ∧ ∃ L : List InsIns, Gro 114 w.heap.size w' v L ∧ 1 ≤ L.length ∧ L.length ≤ 8 ∧ (∀ i, i ∈ L → InsIn i)) ∧ Rdr rb base (P + 80) w' ∧ Turn [rb] w w' := by
  have hlt := h.lt
  have hlt1 := hlt.1
  have hlt2 := hlt.2
  clear hlt
  obtain ⟨i0, hi, hz0, hz1, hz2⟩ := info_parts infInsIns
  have HI := hide hi
  have HZ0 := hide hz0
  have HZ1 := hide hz1
  have HZ2 := hide hz2
  clear hi hz0 hz1 hz2
  go_enter Try.func80, Try.ntmps80
  go_upto_region 1 with fail
  have he0 : Ext w w := Ext.refl _
  have hs0 : w.heap.size ≤ w.heap.size := Nat.le_refl _
  have hR0 : Rdr rb base P w := h.ext he0
  have hT0 : Turn [rb] w w := Turn.of_ext he0 _
  have hG0 := Gro.empty (α := InsIns) w 114
  go_wp2_with fail
  refine (pick_any rb base _ _ (Rdr.hold hR0) (by omega) 8 (by omega) (by omega)).mono ?_
  rintro e w1 ⟨⟨kk, rfl, lkk, qkk⟩, hR1, hy⟩
  have ukk : kk < 8 := by omega
  clear qkk
  have hGm := hG0.turn hy (fun q hq => by simp [Value.ownBlock] at hq; subst hq; simp; omega)
  have hs1 := hy.size
  try simp at hs1
  have hT1 : Turn [rb] w w1 := (Turn.hold hT0).trans hy
  clear hG0
  go_wp2
  go_loopw [3, 4] (fun v6 v7 wz => ∃ (L : List InsIns) (A : Option Addr) (c : Nat) (r : Int), v6 = .slice A L.length c ∧ v7 = .int .i64 r ∧ 0 ≤ r ∧ r + L.length ≤ 7 ∧ Hid (∀ i, i ∈ L → InsIn i) ∧ Gro 114 w.heap.size wz (.slice A L.length c) L ∧ Rdr rb base (P + 1 + 9 * L.length) wz ∧ Turn [rb] w wz) (fun _ v7 _ => (intOf v7).toNat)
  case atStart => exact ⟨[], _, 0, kk, rfl, rfl, by omega, by simp; omega, by intro i hi; simp at hi, hGm, (Rdr.hold hR1).up (by simp), hT1⟩
  case round =>
    obtain ⟨w4, hwr⟩ : ∃ w4 : World, w4 = wr := ⟨_, rfl⟩
    subst hwr
    clear hGm hR1 hT1
    obtain ⟨L, A, c, r, rfl, rfl, hr0, hrL, HB, hG, hR, hT⟩ := hrel
    have hGl := hG.lt
    have hsw := hT.size
    have hm1 := hG.form
    by_cases hlr : 0 < r
    · 
      have q1 : decide (0 < r) = true := decide_eq_true hlr
      go_wp2_with fail
      refine (l20Flat_any rb base _ _ hR (by omega)).mono ?_
      rintro e w5 ⟨⟨i, rfl, hi⟩, hR5, hy⟩
      have hs5 := hy.size
      have hG5 := hG.turn hy (fun q hq => by have := (hGl q hq).1; simp; omega)
      have hT5 := hT.trans hy
      clear hy hG hR hT
      have hok9 : InsIns.Ok i := hi.ok
      have hin9 := hi
      obtain ⟨wa, Fs, xs, h00, hA⟩ := hG5
      have hAf := hA.flat
      go_wp2_with (at_builtin; go_must (refine wpList_append_push2 (α := InsIns) (w0 := wa) (wr := w5) rfl _ _ 96 rfl i0 _ 32 Try.underlying96 HI.out HZ0.out HZ1.out HZ2.out rfl (by decide) hA.app rfl (i) #[.int .i64 i.op, .int .i64 i.d, .int .i64 i.a, .int .i64 i.k] 114 [] _ rfl Ext.auto ⟨rfl, hok9, rfl⟩ (Fr.nil _ _) (by repeat (first | (exact fun _ h => absurd h (List.not_mem_nil)) | (refine List.forall_mem_cons.2 ⟨rfl, ?_⟩))) (by unfold maxLen; omega) (by omega) ?_); intro v' w9 xs' hA9 hg9 hb9; have hG9 := Gro.push h00 (fun q hq => (hGl q hq).1) (by simp; omega) hAf hA9 hb9; have hT9 := (Turn.of_grown (a := w5) (b := (w5.alloc (.cells #[.int .i64 i.op, .int .i64 i.d, .int .i64 i.a, .int .i64 i.k] 114))) Ext.auto hg9); obtain ⟨A9, c9, rfl, hl9, hm9⟩ := hG9.form)
      have hR9 := hR5.turn hT9 (fun q hq => by have := (hGl q (by simpa using hq)).1; omega)
      have hTw := hT5.trans hT9 (fun q hq => .inr (hGl q (by simpa using hq)).1)
      have HB9 := hide (show ∀ j, j ∈ L ++ [i] → InsIn j from fun j hj => by
        rcases List.mem_append.1 hj with hj | hj
        · exact HB.out j hj
        · simp at hj; subst hj; exact hin9)
      have hll : (L ++ [(i : InsIns)]).length = L.length + 1 := by simp
      go_round
      case rel => exact ⟨L ++ [i], A9, c9, r - 1, by rw [hll], by go_num, by omega, by rw [hll]; omega, HB9, hG9, hR9.up (by rw [hll]; omega), hTw⟩
      case measure => (simp [intOf]; try omega)
    · 
      have q1 : decide (0 < r) = false := decide_eq_false hlr
      go_wp2_with fail
      refine (pick_any rb base _ _ hR (by omega) 3 (by omega) (by omega)).mono ?_
      rintro e w5 ⟨⟨m, rfl, lm, qm⟩, hR5, hy⟩
      have um : m < 3 := by omega
      clear qm
      have hG5 := hG.turn hy (fun q hq => by have := (hGl q hq).1; simp; omega)
      have hT5 := hT.trans hy
      have hs5 := hy.size
      clear hG hR hT hy
      have hc : m = 0 ∨ m = 1 ∨ m = 2 := by omega
      clear lm um
      rcases hc with rfl | rfl | rfl
      · 
        go_wp2_with fail
        refine (pick_any rb base _ _ hR5 (by omega) 2 (by omega) (by omega)).mono ?_
        rintro e w11 ⟨⟨x, rfl, lx, qx⟩, hR11, hy⟩
        have ux : x < 2 := by omega
        clear qx
        have hG11 := hG5.turn hy (fun q hq => by have := (hGl q hq).1; simp; omega)
        have hT11 := hT5.trans hy
        have hs11 := hy.size
        clear hy hG5 hR5 hT5
        go_wp2_with fail
        refine (pick_any rb base _ _ hR11 (by omega) 4 (by omega) (by omega)).mono ?_
        rintro e w12 ⟨⟨d, rfl, ld, qd⟩, hR12, hy⟩
        have ud : d < 4 := by omega
        clear qd
        have hG12 := hG11.turn hy (fun q hq => by have := (hGl q hq).1; simp; omega)
        have hT12 := hT11.trans hy
        have hs12 := hy.size
        clear hy hG11 hR11 hT11
        go_wp2_with fail
        refine (pick_any rb base _ _ hR12 (by omega) 4 (by omega) (by omega)).mono ?_
        rintro e w13 ⟨⟨a, rfl, la, qa⟩, hR13, hy⟩
        have ua : a < 4 := by omega
        clear qa
        have hG13 := hG12.turn hy (fun q hq => by have := (hGl q hq).1; simp; omega)
        have hT13 := hT12.trans hy
        have hs13 := hy.size
        clear hy hG12 hR12 hT12
        go_wp2_with fail
        refine (pick_any rb base _ _ hR13 (by omega) 64 (by omega) (by omega)).mono ?_
        rintro e w14 ⟨⟨k, rfl, lk, qk⟩, hR14, hy⟩
        have uk : k < 64 := by omega
        clear qk
        have hG14 := hG13.turn hy (fun q hq => by have := (hGl q hq).1; simp; omega)
        have hT14 := hT13.trans hy
        have hs14 := hy.size
        clear hy hG13 hR13 hT13
        have hok9 : InsIns.Ok ⟨11 + x, d, a, k⟩ := InsIn.ok (by unfold InsIn; simp only []; omega)
        have hin9 : InsIn ⟨11 + x, d, a, k⟩ := by unfold InsIn; simp only []; omega
        obtain ⟨wa, Fs, xs, h00, hA⟩ := hG14
        have hAf := hA.flat
        go_wp2_with (at_builtin; go_must (refine wpList_append_push2 (α := InsIns) (w0 := wa) (wr := w14) rfl _ _ 96 rfl i0 _ 32 Try.underlying96 HI.out HZ0.out HZ1.out HZ2.out rfl (by decide) hA.app rfl (⟨11 + x, d, a, k⟩) #[.int .i64 (11 + x), .int .i64 d, .int .i64 a, .int .i64 k] 114 [] _ rfl Ext.auto ⟨rfl, hok9, rfl⟩ (Fr.nil _ _) (by repeat (first | (exact fun _ h => absurd h (List.not_mem_nil)) | (refine List.forall_mem_cons.2 ⟨rfl, ?_⟩))) (by unfold maxLen; omega) (by omega) ?_); intro v' w9 xs' hA9 hg9 hb9; have hG9 := Gro.push h00 (fun q hq => (hGl q hq).1) (by simp; omega) hAf hA9 hb9; have hT9 := (Turn.of_grown (a := w14) (b := (w14.alloc (.cells #[.int .i64 (11 + x), .int .i64 d, .int .i64 a, .int .i64 k] 114))) Ext.auto hg9); obtain ⟨A9, c9, rfl, hl9, hm9⟩ := hG9.form)
        have hR9 := hR14.turn hT9 (fun q hq => by have := (hGl q (by simpa using hq)).1; omega)
        have hTw := hT14.trans hT9 (fun q hq => .inr (hGl q (by simpa using hq)).1)
        have HB9 := hide (show ∀ j, j ∈ L ++ [⟨11 + x, d, a, k⟩] → InsIn j from fun j hj => by
          rcases List.mem_append.1 hj with hj | hj
          · exact HB.out j hj
          · simp at hj; subst hj; exact hin9)
        have hll : (L ++ [(⟨11 + x, d, a, k⟩ : InsIns)]).length = L.length + 1 := by simp
        rw [hll] at hG9
        go_ret
        exact ⟨⟨_, rfl, _, hG9, by rw [hll]; omega, by rw [hll]; omega, HB9.out⟩, hR9.up (by omega), hTw⟩
      · 
        go_wp2_with fail
        refine (pick_any rb base _ _ hR5 (by omega) 4 (by omega) (by omega)).mono ?_
        rintro e w11 ⟨⟨a, rfl, la, qa⟩, hR11, hy⟩
        have ua : a < 4 := by omega
        clear qa
        have hG11 := hG5.turn hy (fun q hq => by have := (hGl q hq).1; simp; omega)
        have hT11 := hT5.trans hy
        have hs11 := hy.size
        clear hy hG5 hR5 hT5
        have hok9 : InsIns.Ok ⟨13, 0, a, 0⟩ := InsIn.ok (by unfold InsIn; simp only []; omega)
        have hin9 : InsIn ⟨13, 0, a, 0⟩ := by unfold InsIn; simp only []; omega
        obtain ⟨wa, Fs, xs, h00, hA⟩ := hG11
        have hAf := hA.flat
        go_wp2_with (at_builtin; go_must (refine wpList_append_push2 (α := InsIns) (w0 := wa) (wr := w11) rfl _ _ 96 rfl i0 _ 32 Try.underlying96 HI.out HZ0.out HZ1.out HZ2.out rfl (by decide) hA.app rfl (⟨13, 0, a, 0⟩) #[.int .i64 13, .int .i64 0, .int .i64 a, .int .i64 0] 114 [] _ rfl Ext.auto ⟨rfl, hok9, rfl⟩ (Fr.nil _ _) (by repeat (first | (exact fun _ h => absurd h (List.not_mem_nil)) | (refine List.forall_mem_cons.2 ⟨rfl, ?_⟩))) (by unfold maxLen; omega) (by omega) ?_); intro v' w9 xs' hA9 hg9 hb9; have hG9 := Gro.push h00 (fun q hq => (hGl q hq).1) (by simp; omega) hAf hA9 hb9; have hT9 := (Turn.of_grown (a := w11) (b := (w11.alloc (.cells #[.int .i64 13, .int .i64 0, .int .i64 a, .int .i64 0] 114))) Ext.auto hg9); obtain ⟨A9, c9, rfl, hl9, hm9⟩ := hG9.form)
        have hR9 := hR11.turn hT9 (fun q hq => by have := (hGl q (by simpa using hq)).1; omega)
        have hTw := hT11.trans hT9 (fun q hq => .inr (hGl q (by simpa using hq)).1)
        have HB9 := hide (show ∀ j, j ∈ L ++ [⟨13, 0, a, 0⟩] → InsIn j from fun j hj => by
          rcases List.mem_append.1 hj with hj | hj
          · exact HB.out j hj
          · simp at hj; subst hj; exact hin9)
        have hll : (L ++ [(⟨13, 0, a, 0⟩ : InsIns)]).length = L.length + 1 := by simp
        rw [hll] at hG9
        go_ret
        exact ⟨⟨_, rfl, _, hG9, by rw [hll]; omega, by rw [hll]; omega, HB9.out⟩, hR9.up (by omega), hTw⟩
      · 
        go_wp2_with fail
        refine (l20Flat_any rb base _ _ hR5 (by omega)).mono ?_
        rintro e w6 ⟨⟨i, rfl, hi⟩, hR6, hy⟩
        have hs6 := hy.size
        have hG6 := hG5.turn hy (fun q hq => by have := (hGl q hq).1; simp; omega)
        have hT6 := hT5.trans hy
        clear hy hG5 hR5 hT5
        have hok9 : InsIns.Ok i := hi.ok
        have hin9 := hi
        obtain ⟨wa, Fs, xs, h00, hA⟩ := hG6
        have hAf := hA.flat
        go_wp2_with (at_builtin; go_must (refine wpList_append_push2 (α := InsIns) (w0 := wa) (wr := w6) rfl _ _ 96 rfl i0 _ 32 Try.underlying96 HI.out HZ0.out HZ1.out HZ2.out rfl (by decide) hA.app rfl (i) #[.int .i64 i.op, .int .i64 i.d, .int .i64 i.a, .int .i64 i.k] 114 [] _ rfl Ext.auto ⟨rfl, hok9, rfl⟩ (Fr.nil _ _) (by repeat (first | (exact fun _ h => absurd h (List.not_mem_nil)) | (refine List.forall_mem_cons.2 ⟨rfl, ?_⟩))) (by unfold maxLen; omega) (by omega) ?_); intro v' w9 xs' hA9 hg9 hb9; have hG9 := Gro.push h00 (fun q hq => (hGl q hq).1) (by simp; omega) hAf hA9 hb9; have hT9 := (Turn.of_grown (a := w6) (b := (w6.alloc (.cells #[.int .i64 i.op, .int .i64 i.d, .int .i64 i.a, .int .i64 i.k] 114))) Ext.auto hg9); obtain ⟨A9, c9, rfl, hl9, hm9⟩ := hG9.form)
        have hR9 := hR6.turn hT9 (fun q hq => by have := (hGl q (by simpa using hq)).1; omega)
        have hTw := hT6.trans hT9 (fun q hq => .inr (hGl q (by simpa using hq)).1)
        have HB9 := hide (show ∀ j, j ∈ L ++ [i] → InsIn j from fun j hj => by
          rcases List.mem_append.1 hj with hj | hj
          · exact HB.out j hj
          · simp at hj; subst hj; exact hin9)
        have hll : (L ++ [(i : InsIns)]).length = L.length + 1 := by simp
        rw [hll] at hG9
        go_ret
        exact ⟨⟨_, rfl, _, hG9, by rw [hll]; omega, by rw [hll]; omega, HB9.out⟩, hR9.up (by omega), hTw⟩

end Go.Proofs.Yteaacelfnkiboaa
