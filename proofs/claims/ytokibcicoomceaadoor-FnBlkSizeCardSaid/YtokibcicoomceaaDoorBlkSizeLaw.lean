/-
  The law FnBlkSize holds of every input.
-/
import Derived.Test.YtokibcicoomceaaDoorEvI
import Derived.Test.YtokibcicoomceaaDoorDrawBT
import Derived.Test.YtokibcicoomceaaDoorBLawLib
import Derived.Deep.DeepCutAuto
namespace Go.Proofs.YtokibcicoomceaaDoor
open Go.RowKit

set_option linter.unusedVariables false
set_option linter.unusedSimpArgs false
set_option maxRecDepth 100000

set_option maxHeartbeats 64000000 in
theorem lawBlkSize_any (code : List UInt8) (v : Value) (w : World) (h : Sl w (Old w) v code) (lf : Nat) (hF : Forms lf w) : Calls Tryd.prog 4 #[v] w fun e w' => e = .returned (.bool true) ∧ Ext w w' := by
  obtain ⟨Ac, cc, rfl, -, -⟩ := h.form
  by_cases hbig : 1048576 < code.length
  · have q1 : decide (1048576 < (code.length : Int)) = true := decide_eq_true (by omega)
    go_enter Tryd.func4, Tryd.ntmps4
    go_wp2
    go_ret
    exact ⟨rfl, Ext.refl _⟩
  have q1 : decide (1048576 < (code.length : Int)) = false := decide_eq_false (by omega)
  go_enter Tryd.func4, Tryd.ntmps4
  go_wp2_with fail
  refine (drawBlkLower_any code _ _ h).mono ?_
  rintro e w1 ⟨⟨pc, A, c, L, rfl, hS, hl9, hp0, hp1⟩, he1⟩
  have hfit : Fits pc := by unfold Fits; omega
  clear q1 hbig
  have hsw := he1.size
  have HB := hide (fun hq : blkOkB pc L = true => low_size hq)
  have HZ := hide (fun hq : blkOkB pc L = false => (show blkLower pc L = lowNone by unfold blkLower; rw [hq]; rfl))
  have hb40 := blkLower_len pc L
  go_wp2_with fail
  refine (implBlkLower_p pc L _ _ hS hfit lf (hF.ext he1)).mono ?_
  rintro e w2 ⟨r1, F, rfl, hO, hFr, hy⟩
  generalize blkLower pc L = B at *
  have hB0 : Sl w2 (Old w2) r1 B.ops := hO.old hFr
  obtain ⟨A3, c3, rfl, -, -⟩ := hO.sl.form
  have he2 := he1.trans hy
  have hS2 := hS.ext hy
  clear hO hFr hy
  go_upto_region 5 with fail
  generalize ho : Obj.cells #[.int .i64 B.pc, .int .i64 B.len, .slice A3 B.ops.length c3, .int .i64 B.fin, .int .i64 B.x, .int .i64 B.y, .int .i64 B.k] 34 = o
  have hBx : Bx (w2.alloc o) w2.heap.size [.int .i64 B.pc, .int .i64 B.len, .slice A3 B.ops.length c3, .int .i64 B.fin, .int .i64 B.x, .int .i64 B.y, .int .i64 B.k] := by rw [← ho]; exact Bx.new w2 #[.int .i64 B.pc, .int .i64 B.len, .slice A3 B.ops.length c3, .int .i64 B.fin, .int .i64 B.x, .int .i64 B.y, .int .i64 B.k] 34
  have hE3 : Ext w (w2.alloc o) := he2.alloc o
  have hS3 := hS2.ext ((Ext.refl w2).alloc o)
  have hB3 := hB0.ext ((Ext.refl w2).alloc o)
  have hs3 : w2.heap.size + 1 ≤ (w2.alloc o).heap.size := by simp
  generalize w2.alloc o = w3 at *
  clear ho hB0 hS2
  cases q0 : blkOkB pc L
  · have hz := HZ.out q0
    have HQ := hide q0
    clear q0
    go_wp2_with fail
    refine (specBlkOk_any pc L _ _ hS3 hfit).mono ?_
    rintro e w4 ⟨rfl, hy⟩
    rw [HQ.out]
    have hBy := hy.bx hBx (by omega)
    have hs4 := hy.size
    have yx : w2.heap.size < w4.heap.size := by omega
    have xx2 := hBy 2 _ rfl
    have q2 : ((B.ops.length : Int) == 0) = true := by rw [hz]; rfl
    clear hz
    go_wp2_with (go_at_call 12; refine (laOk_any _).mono ?_; rintro e w' ⟨rfl, rfl⟩)
    go_ret
    exact ⟨rfl, hE3.trans hy⟩
  have HQ := hide q0
  obtain ⟨f1, f2, f3, f4⟩ := HB.out q0
  have hoki := hide (fun k (hk : k < L.length) => okAt_ins q0 hk)
  have H1 := hide f1
  have H2 := hide f2
  clear q0 f1 f2
  go_wp2_with fail
  refine (specBlkOk_any pc L _ _ hS3 hfit).mono ?_
  rintro e w4 ⟨rfl, hy⟩
  rw [HQ.out]
  have hB4 := hB3.ext hy
  have hS4 := hS3.ext hy
  have he4 := hE3.trans hy
  have hBy := hy.bx hBx (by omega)
  have hs4 := hy.size
  clear hy hB3 hS3 hBx
  go_wp2
  go_loopw [6, 7, 8, 9] (fun v6 v7 v8 _ wz => ∃ k r s : Nat, v6 = .int .i64 (r : Int) ∧ v7 = .int .i64 (s : Int) ∧ v8 = .int .i64 (k : Int) ∧ k ≤ L.length ∧ r ≤ k ∧ s ≤ k ∧ Hid (r = countB reachB (L.take k)) ∧ Hid (s = countB turnsB (L.take k)) ∧ Ext w4 wz) (fun _ _ v8 _ _ => L.length - (intOf v8).toNat)
  case atStart => exact ⟨0, 0, 0, rfl, rfl, rfl, by omega, by omega, by omega, rfl, rfl, Ext.refl _⟩
  case round =>
    obtain ⟨w9, hwr⟩ : ∃ w9 : World, w9 = wr := ⟨_, rfl⟩
    subst hwr
    obtain ⟨k, r, s, rfl, rfl, rfl, hk, hr, hs, HR, HS, hE⟩ := hrel
    by_cases hlt : k < L.length
    · have HN1 := hide (count_take (p := reachB) hlt)
      have HN2 := hide (count_take (p := turnsB) hlt)
      obtain ⟨bb, off, rfl, hbo, hk0, e0, e1, e2, e3⟩ := at_InsIns (hS4.ext hE) hlt
      have hi := hoki.out k hlt
      have o1 := hi.1.o1
      have o2 := hi.2
      have z0 : (0 : Int) ≤ (k : Int) := by omega
      have z1 : (k : Int) < (L.length : Int) := by omega
      clear e1 e2 e3 hi
      generalize L[k].op = op at *
      have hc : op = 1 ∨ op = 2 ∨ op = 3 ∨ op = 4 ∨ op = 5 ∨ op = 6 ∨ op = 7 ∨ op = 8 ∨ op = 9 ∨ op = 10 ∨ op = 11 ∨ op = 12 ∨ op = 13 ∨ op = 14 ∨ op = 15 := by omega
      clear o1 o2
      rcases hc with rfl | rfl | rfl | rfl | rfl | rfl | rfl | rfl | rfl | rfl | rfl | rfl | rfl | rfl | rfl
      · have M1 := hide (show r = countB reachB (L.take (k + 1)) by rw [HN1.out, ← HR.out]; rfl)
        have M2 := hide (show s + 1 = countB turnsB (L.take (k + 1)) by rw [HN2.out, ← HS.out]; rfl)
        go_wp2
        go_round
        case rel => exact ⟨k + 1, r, s + 1, rfl, by go_num, by go_num, by omega, by omega, by omega, M1, M2, hE⟩
        case measure => (simp [intOf]; try omega)
      · have M1 := hide (show r = countB reachB (L.take (k + 1)) by rw [HN1.out, ← HR.out]; rfl)
        have M2 := hide (show s + 1 = countB turnsB (L.take (k + 1)) by rw [HN2.out, ← HS.out]; rfl)
        go_wp2
        go_round
        case rel => exact ⟨k + 1, r, s + 1, rfl, by go_num, by go_num, by omega, by omega, by omega, M1, M2, hE⟩
        case measure => (simp [intOf]; try omega)
      · have M1 := hide (show r = countB reachB (L.take (k + 1)) by rw [HN1.out, ← HR.out]; rfl)
        have M2 := hide (show s + 1 = countB turnsB (L.take (k + 1)) by rw [HN2.out, ← HS.out]; rfl)
        go_wp2
        go_round
        case rel => exact ⟨k + 1, r, s + 1, rfl, by go_num, by go_num, by omega, by omega, by omega, M1, M2, hE⟩
        case measure => (simp [intOf]; try omega)
      · have M1 := hide (show r = countB reachB (L.take (k + 1)) by rw [HN1.out, ← HR.out]; rfl)
        have M2 := hide (show s + 1 = countB turnsB (L.take (k + 1)) by rw [HN2.out, ← HS.out]; rfl)
        go_wp2
        go_round
        case rel => exact ⟨k + 1, r, s + 1, rfl, by go_num, by go_num, by omega, by omega, by omega, M1, M2, hE⟩
        case measure => (simp [intOf]; try omega)
      · have M1 := hide (show r = countB reachB (L.take (k + 1)) by rw [HN1.out, ← HR.out]; rfl)
        have M2 := hide (show s + 1 = countB turnsB (L.take (k + 1)) by rw [HN2.out, ← HS.out]; rfl)
        go_wp2
        go_round
        case rel => exact ⟨k + 1, r, s + 1, rfl, by go_num, by go_num, by omega, by omega, by omega, M1, M2, hE⟩
        case measure => (simp [intOf]; try omega)
      · have M1 := hide (show r = countB reachB (L.take (k + 1)) by rw [HN1.out, ← HR.out]; rfl)
        have M2 := hide (show s + 1 = countB turnsB (L.take (k + 1)) by rw [HN2.out, ← HS.out]; rfl)
        go_wp2
        go_round
        case rel => exact ⟨k + 1, r, s + 1, rfl, by go_num, by go_num, by omega, by omega, by omega, M1, M2, hE⟩
        case measure => (simp [intOf]; try omega)
      · have M1 := hide (show r = countB reachB (L.take (k + 1)) by rw [HN1.out, ← HR.out]; rfl)
        have M2 := hide (show s + 1 = countB turnsB (L.take (k + 1)) by rw [HN2.out, ← HS.out]; rfl)
        go_wp2
        go_round
        case rel => exact ⟨k + 1, r, s + 1, rfl, by go_num, by go_num, by omega, by omega, by omega, M1, M2, hE⟩
        case measure => (simp [intOf]; try omega)
      · have M1 := hide (show r = countB reachB (L.take (k + 1)) by rw [HN1.out, ← HR.out]; rfl)
        have M2 := hide (show s + 1 = countB turnsB (L.take (k + 1)) by rw [HN2.out, ← HS.out]; rfl)
        go_wp2
        go_round
        case rel => exact ⟨k + 1, r, s + 1, rfl, by go_num, by go_num, by omega, by omega, by omega, M1, M2, hE⟩
        case measure => (simp [intOf]; try omega)
      · have M1 := hide (show r + 1 = countB reachB (L.take (k + 1)) by rw [HN1.out, ← HR.out]; rfl)
        have M2 := hide (show s + 1 = countB turnsB (L.take (k + 1)) by rw [HN2.out, ← HS.out]; rfl)
        go_wp2
        go_round
        case rel => exact ⟨k + 1, r + 1, s + 1, by go_num, by go_num, by go_num, by omega, by omega, by omega, M1, M2, hE⟩
        case measure => (simp [intOf]; try omega)
      · have M1 := hide (show r + 1 = countB reachB (L.take (k + 1)) by rw [HN1.out, ← HR.out]; rfl)
        have M2 := hide (show s = countB turnsB (L.take (k + 1)) by rw [HN2.out, ← HS.out]; rfl)
        go_wp2
        go_round
        case rel => exact ⟨k + 1, r + 1, s, by go_num, rfl, by go_num, by omega, by omega, by omega, M1, M2, hE⟩
        case measure => (simp [intOf]; try omega)
      · have M1 := hide (show r = countB reachB (L.take (k + 1)) by rw [HN1.out, ← HR.out]; rfl)
        have M2 := hide (show s = countB turnsB (L.take (k + 1)) by rw [HN2.out, ← HS.out]; rfl)
        go_wp2
        go_round
        case rel => exact ⟨k + 1, r, s, rfl, rfl, by go_num, by omega, by omega, by omega, M1, M2, hE⟩
        case measure => (simp [intOf]; try omega)
      · have M1 := hide (show r = countB reachB (L.take (k + 1)) by rw [HN1.out, ← HR.out]; rfl)
        have M2 := hide (show s = countB turnsB (L.take (k + 1)) by rw [HN2.out, ← HS.out]; rfl)
        go_wp2
        go_round
        case rel => exact ⟨k + 1, r, s, rfl, rfl, by go_num, by omega, by omega, by omega, M1, M2, hE⟩
        case measure => (simp [intOf]; try omega)
      · have M1 := hide (show r = countB reachB (L.take (k + 1)) by rw [HN1.out, ← HR.out]; rfl)
        have M2 := hide (show s = countB turnsB (L.take (k + 1)) by rw [HN2.out, ← HS.out]; rfl)
        go_wp2
        go_round
        case rel => exact ⟨k + 1, r, s, rfl, rfl, by go_num, by omega, by omega, by omega, M1, M2, hE⟩
        case measure => (simp [intOf]; try omega)
      · have M1 := hide (show r + 1 = countB reachB (L.take (k + 1)) by rw [HN1.out, ← HR.out]; rfl)
        have M2 := hide (show s = countB turnsB (L.take (k + 1)) by rw [HN2.out, ← HS.out]; rfl)
        go_wp2
        go_round
        case rel => exact ⟨k + 1, r + 1, s, by go_num, rfl, by go_num, by omega, by omega, by omega, M1, M2, hE⟩
        case measure => (simp [intOf]; try omega)
      · have M1 := hide (show r + 1 = countB reachB (L.take (k + 1)) by rw [HN1.out, ← HR.out]; rfl)
        have M2 := hide (show s + 1 = countB turnsB (L.take (k + 1)) by rw [HN2.out, ← HS.out]; rfl)
        go_wp2
        go_round
        case rel => exact ⟨k + 1, r + 1, s + 1, by go_num, by go_num, by go_num, by omega, by omega, by omega, M1, M2, hE⟩
        case measure => (simp [intOf]; try omega)
    · obtain rfl : k = L.length := by omega
      have HM1 := hide (show kinds outB B.ops = r by rw [H1.out, HR.out, List.take_length])
      have HM2 := hide (show kinds (· == 8) B.ops = s by rw [H2.out, HS.out, List.take_length])
      have hBy := hE.bx hBy (by omega)
      have hB4 := hB4.ext hE
      have he4 := he4.trans hE
      have hs9 := hE.size
      have yx : w2.heap.size < w9.heap.size := by omega
      have xx0 := hBy 0 _ rfl
      have xx1 := hBy 1 _ rfl
      have xx2 := hBy 2 _ rfl
      have xx3 := hBy 3 _ rfl
      have xx4 := hBy 4 _ rfl
      have xx5 := hBy 5 _ rfl
      have xx6 := hBy 6 _ rfl
      have zw : IntKind.i64.wrap (5 * (L.length : Int)) = 5 * (L.length : Int) := by rw [IntKind.wrap_i64]; omega
      have q1 : decide ((B.ops.length : Int) ≤ 5 * (L.length : Int)) = true := decide_eq_true (by omega)
      have q2 : decide (0 < (B.ops.length : Int)) = true := decide_eq_true (by omega)
      go_wp2_with fail
      refine (implIrEvents_any B _ _ hB4 (by omega)).mono ?_
      rintro e w5 ⟨rfl, hy⟩
      rw [HM1.out]
      have hBz := hy.bx hBy (by omega)
      have hs5 := hy.size
      clear xx0 xx1 xx2 xx3 xx4 xx5 xx6
      have yx5 : w2.heap.size < w5.heap.size := by omega
      have xx0 := hBz 0 _ rfl
      have xx1 := hBz 1 _ rfl
      have xx2 := hBz 2 _ rfl
      have xx3 := hBz 3 _ rfl
      have xx4 := hBz 4 _ rfl
      have xx5 := hBz 5 _ rfl
      have xx6 := hBz 6 _ rfl
      go_wp2_with fail
      refine (laMany_any B 8 _ _ (hB4.ext hy) (by omega)).mono ?_
      rintro e w6 ⟨rfl, hy6⟩
      rw [HM2.out]
      have hBu := hy6.bx hBz (by omega)
      have hs6 := hy6.size
      clear xx0 xx1 xx2 xx3 xx4 xx5 xx6
      have yx6 : w2.heap.size < w6.heap.size := by omega
      have xx2 := hBu 2 _ rfl
      go_wp2
      go_ret
      exact ⟨rfl, (he4.trans hy).trans hy6⟩

end Go.Proofs.YtokibcicoomceaaDoor
