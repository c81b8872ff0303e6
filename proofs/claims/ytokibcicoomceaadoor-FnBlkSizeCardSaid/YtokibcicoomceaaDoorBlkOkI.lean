/-
  Whether instructions are a piece of code: the program.
-/
import Derived.Test.YtokibcicoomceaaDoorBlkOkS
import Derived.Test.YtokibcicoomceaaDoorInsI
import Derived.Deep.DeepCutAuto
namespace Go.Proofs.YtokibcicoomceaaDoor
open Go.RowKit

set_option linter.unusedVariables false
set_option linter.unusedSimpArgs false
set_option maxRecDepth 100000

theorem okAt_stop {l : List InsIns} {k : Nat} (hk : k < l.length) (h : (l[k].op == 0) = true) : okAt l k = false := by
  rw [okAt_get hk]
  have e : (l[k].op != 0) = false := by simpa using h
  rw [e]; simp
theorem okAt_plain2 {l : List InsIns} {k : Nat} (hk : k < l.length) (h0 : insOkB l[k] = true) (h1 : (l[k].op == 0) = false) (h2 : endB l[k].op = false) : okAt l k = true := by
  rw [okAt_get hk, h0, h2]
  have e : (l[k].op != 0) = true := by simpa using h1
  rw [e]; rfl
theorem okAt_ends {l : List InsIns} {k : Nat} (hk : k + 1 < l.length) (h : endB l[k].op = true) : okAt l k = false := by
  rw [okAt_get (by omega), h, decide_eq_false (by omega : ¬ k + 1 = l.length)]
  simp

theorem endB_in (op : Int) : inB op 11 13 = endB op := by
  unfold inB endB
  rw [Bool.eq_iff_iff]
  simp
  omega
theorem implInsEnds_is (op : Int) (w : World) : Calls Tryd.prog 13 #[.int .i64 op] w fun e w' => e = .returned (.bool (endB op)) ∧ w = w' := by
  go_enter Tryd.func13, Tryd.ntmps13
  go_wp2_with (go_at_call 47; refine (in_any _ _ _ _).mono ?_; rintro e w' ⟨rfl, rfl⟩)
  go_ret
  exact ⟨by rw [endB_in]; rfl, rfl⟩

set_option maxHeartbeats 16000000 in
theorem implBlkOk_any (pc : Int) (l : List InsIns) (v : Value) (w : World) (h : Sl w (Old w) v l) (hp : Fits pc) (lo : Nat) (hF : Forms lo w) :
    Calls Tryd.prog 10 #[.int .i64 pc, v] w fun e w' => e = .returned (.bool (blkOkB pc l)) ∧ Ext w w' := by
  obtain ⟨Al, cl, rfl, hll, hml⟩ := h.form
  unfold maxLen at hml
  have hw64 : IntKind.i64.wrap (64 - (l.length : Int)) = 64 - (l.length : Int) := by rw [IntKind.wrap_i64]; omega
  cases q0 : inB (l.length : Int) 1 8
  · have HC := hide (show blkOkB pc l = false by unfold blkOkB; rw [q0]; rfl)
    go_enter Tryd.func10, Tryd.ntmps10
    go_wp2_with (go_at_call 47; refine (in_any _ _ _ _).mono ?_; rintro e w' ⟨rfl, rfl⟩)
    go_ret
    exact ⟨by rw [HC.out]; rfl, Ext.auto⟩
  cases q1 : inB pc 0 (64 - (l.length : Int))
  · have HC := hide (show blkOkB pc l = false by unfold blkOkB; rw [q0, q1]; rfl)
    go_enter Tryd.func10, Tryd.ntmps10
    go_wp2_with (go_at_call 47; refine (in_any _ _ _ _).mono ?_; rintro e w' ⟨rfl, rfl⟩)
    go_ret
    exact ⟨by rw [HC.out]; rfl, Ext.auto⟩
  have HY := hide (fun hall : AllAt l l.length => blkOk_yes q0 q1 hall)
  have HNO := hide (fun (k : Nat) (hk : k < l.length) (hno : okAt l k = false) => blkOk_no (pc := pc) hk hno)
  have hlen := (inB_iff.1 q0).2
  go_enter Tryd.func10, Tryd.ntmps10
  go_wp2_with (go_at_call 47; refine (in_any _ _ _ _).mono ?_; rintro e w' ⟨rfl, rfl⟩)
  go_loopw [5, 6, 21] (fun _ _ vk wz => ∃ k : Nat, vk = .int .i64 (k : Int) ∧ k ≤ l.length ∧ Hid (AllAt l k) ∧ Ext w wz) (fun _ _ vk _ => l.length - (intOf vk).toNat)
  case atStart => exact ⟨0, rfl, by omega, AllAt.zero l, Ext.auto⟩
  case round =>
    obtain ⟨w1, hwr⟩ : ∃ w1 : World, w1 = wr := ⟨_, rfl⟩
    subst hwr
    obtain ⟨k, rfl, hle, HN, hE⟩ := hrel
    by_cases hlt : k < l.length
    · have h1 := h.ext hE
      obtain ⟨b, off, rfl, hbo, hk0, e0, e1, e2, e3⟩ := at_InsIns h1 hlt
      have z0 : (0 : Int) ≤ (k : Int) := by omega
      have z1 : (k : Int) < (l.length : Int) := by omega
      have zl : IntKind.i64.wrap ((l.length : Int) - 1) = (l.length : Int) - 1 := by rw [IntKind.wrap_i64]; omega
      have hz := hE.size
      have hFe := hF.ext hE
      go_upto_region 6 with fail
      have hBx : Bx (w1.alloc (.cells #[.int .i64 l[k].op, .int .i64 l[k].d, .int .i64 l[k].a, .int .i64 l[k].k] 30)) w1.heap.size [.int .i64 l[k].op, .int .i64 l[k].d, .int .i64 l[k].a, .int .i64 l[k].k] := Bx.new w1 #[.int .i64 l[k].op, .int .i64 l[k].d, .int .i64 l[k].a, .int .i64 l[k].k] 30
      have hs2 : w1.heap.size + 1 ≤ (w1.alloc (.cells #[.int .i64 l[k].op, .int .i64 l[k].d, .int .i64 l[k].a, .int .i64 l[k].k] 30)).heap.size := by simp
      have hE12 : Ext w1 (w1.alloc (.cells #[.int .i64 l[k].op, .int .i64 l[k].d, .int .i64 l[k].a, .int .i64 l[k].k] 30)) := Ext.auto
      have hE2 : Ext w (w1.alloc (.cells #[.int .i64 l[k].op, .int .i64 l[k].d, .int .i64 l[k].a, .int .i64 l[k].k] 30)) := hE.trans hE12
      have hF2 := hFe.ext hE12
      clear e0 e1 e2 e3
      generalize (w1.alloc (.cells #[.int .i64 l[k].op, .int .i64 l[k].d, .int .i64 l[k].a, .int .i64 l[k].k] 30)) = w2 at *
      have yx : w1.heap.size < w2.heap.size := by omega
      have xx0 := hBx 0 _ rfl
      have xx1 := hBx 1 _ rfl
      have xx2 := hBx 2 _ rfl
      have xx3 := hBx 3 _ rfl
      cases p0 : insOkB l[k]
      · have HF := hide (HNO.out k hlt (okAt_bad hlt p0))
        have HQ := hide p0
        clear p0
        go_wp2_with fail
        refine (implInsOk_any l[k] lo _ hF2).mono ?_
        rintro e w3 ⟨rfl, hy⟩
        rw [HQ.out]
        go_wp2
        go_ret
        exact ⟨by rw [HF.out]; rfl, hE2.trans hy⟩
      have HQ := hide p0
      clear p0
      go_wp2_with fail
      refine (implInsOk_any l[k] lo _ hF2).mono ?_
      rintro e w3 ⟨rfl, hy⟩
      rw [HQ.out]
      have hs3 := hy.size
      have hB3 := hy.bx hBx (by omega)
      have hE3 := hE2.trans hy
      clear xx0 xx1 xx2 xx3 hBx hy
      have yx3 : w1.heap.size < w3.heap.size := by omega
      have xx0 := hB3 0 _ rfl
      cases q1 : (l[k].op == 0)
      rotate_left
      · have HF := hide (HNO.out k hlt (okAt_stop hlt q1))
        go_wp2
        go_ret
        exact ⟨by rw [HF.out]; rfl, hE3⟩
      cases p1 : endB l[k].op
      · have HT := hide (HN.out.next (okAt_plain2 hlt HQ.out q1 p1))
        have HR := hide p1
        clear p1
        go_wp2_with (go_at_call 13; refine (implInsEnds_is l[k].op _).mono ?_; rintro e w4 ⟨rfl, rfl⟩; rw [HR.out])
        go_round
        case rel => exact ⟨k + 1, by go_num, by omega, HT, hE3⟩
        case measure => (simp [intOf]; try omega)
      have HR := hide p1
      by_cases hin : k + 1 < l.length
      · have HF := hide (HNO.out k hlt (okAt_ends hin p1))
        clear p1
        have z2 : decide ((k : Int) < (l.length : Int) - 1) = true := decide_eq_true (by omega)
        go_wp2_with (go_at_call 13; refine (implInsEnds_is l[k].op _).mono ?_; rintro e w4 ⟨rfl, rfl⟩; rw [HR.out])
        go_ret
        exact ⟨by rw [HF.out]; rfl, hE3⟩
      · have HT := hide (HN.out.next (okAt_last hlt hin HQ.out p1))
        clear p1
        have z2 : decide ((k : Int) < (l.length : Int) - 1) = false := decide_eq_false (by omega)
        go_wp2_with (go_at_call 13; refine (implInsEnds_is l[k].op _).mono ?_; rintro e w4 ⟨rfl, rfl⟩; rw [HR.out])
        go_round
        case rel => exact ⟨k + 1, by go_num, by omega, HT, hE3⟩
        case measure => (simp [intOf]; try omega)
    · obtain rfl : k = l.length := by omega
      have HF := hide (HY.out HN.out)
      go_wp2
      go_ret
      exact ⟨by rw [HF.out]; rfl, hE⟩

end Go.Proofs.YtokibcicoomceaaDoor
