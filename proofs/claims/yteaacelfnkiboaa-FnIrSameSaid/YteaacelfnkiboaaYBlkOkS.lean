/-
  BlkOkS
-/
import Derived.Test.YteaacelfnkiboaaYWordPure
import Derived.Test.YteaacelfnkiboaaYWords
import Derived.Deep.DeepCutAuto
namespace Go.Proofs.Yteaacelfnkiboaa
open Go.RowKit

set_option linter.unusedVariables false
set_option linter.unusedSimpArgs false
set_option maxRecDepth 100000

/-- An instruction that may stand in a piece of code, and code goes on behind it. -/
def plainB (i : InsIns) : Bool := insOkB i && (i.op != 0) && !endB i.op
theorem okAt_plain {l : List InsIns} {k : Nat} (hk : k < l.length) (h : plainB l[k] = true) : okAt l k = true := by
  unfold plainB at h
  rw [okAt_get hk]
  simp only [Bool.and_eq_true] at h ⊢
  exact ⟨h.1, by rw [h.2]; rfl⟩
theorem okAt_inner {l : List InsIns} {k : Nat} (hk : k + 1 < l.length) (h : plainB l[k] = false) : okAt l k = false := by
  rw [okAt_get (by omega), decide_eq_false (by omega : ¬ k + 1 = l.length), Bool.or_false]
  exact h
theorem endB_op {op : Int} (h : endB op = true) : (op != 0) = true := by
  unfold endB at h
  simp only [Bool.or_eq_true, beq_iff_eq] at h
  simp only [bne_iff_ne, ne_eq]
  omega
theorem okAt_last {l : List InsIns} {k : Nat} (hk : k < l.length) (hl : ¬ k + 1 < l.length) (h0 : insOkB l[k] = true) (h1 : endB l[k].op = true) : okAt l k = true := by
  rw [okAt_get hk, h0, endB_op h1, decide_eq_true (by omega : k + 1 = l.length)]
  simp
theorem okAt_bad {l : List InsIns} {k : Nat} (hk : k < l.length) (h : insOkB l[k] = false) : okAt l k = false := by
  rw [okAt_get hk, h]; rfl
theorem okAt_open {l : List InsIns} {k : Nat} (hk : k < l.length) (h : plainB l[k] = false) (h0 : insOkB l[k] = true) (h1 : endB l[k].op = false) : okAt l k = false := by
  unfold plainB at h
  rw [h0, h1] at h
  rw [okAt_get hk, h0, h1]
  simpa using h

theorem specInsEnds_is (op : Int) (w : World) : Calls Try.prog 113 #[.int .i64 op] w fun e w' => e = .returned (.bool (endB op)) ∧ w = w' := by
  cases q0 : (op == 11) <;> cases q1 : (op == 12) <;> cases q2 : (op == 13)
  all_goals
    have HE := hide (show endB op = ((op == 11) || (op == 12) || (op == 13)) from rfl)
    rw [q0, q1, q2] at HE
    go_enter Try.func113, Try.ntmps113
    go_wp2
    go_ret
    exact ⟨by rw [HE.out]; rfl, rfl⟩

set_option maxHeartbeats 8000000 in
theorem l7Plain_is (i : InsIns) (w : World) : Calls Try.prog 98 #[.agg #[.int .i64 i.op, .int .i64 i.d, .int .i64 i.a, .int .i64 i.k]] w fun e w' => e = .returned (.bool (plainB i)) ∧ Ext w w' := by
  cases q0 : insOkB i
  · 
    have HC := hide (show plainB i = false by unfold plainB; rw [q0]; rfl)
    go_enter Try.func98, Try.ntmps98
    go_upto_region 1 with fail
    have he0 : Ext w (w.alloc (Obj.cells #[.int .i64 i.op, .int .i64 i.d, .int .i64 i.a, .int .i64 i.k] 114)) := (Ext.auto)
    have hs0 : w.heap.size + 1 ≤ ((w.alloc (Obj.cells #[.int .i64 i.op, .int .i64 i.d, .int .i64 i.a, .int .i64 i.k] 114))).heap.size := by simp
    have hq0 := hide (show ((w.alloc (Obj.cells #[.int .i64 i.op, .int .i64 i.d, .int .i64 i.a, .int .i64 i.k] 114))).heap.size = w.heap.size + 1 by simp)
    have hBi_0 : Bx (w.alloc (Obj.cells #[.int .i64 i.op, .int .i64 i.d, .int .i64 i.a, .int .i64 i.k] 114)) (w.heap.size) [.int .i64 i.op, .int .i64 i.d, .int .i64 i.a, .int .i64 i.k] := (by have := (Bx.new w #[.int .i64 i.op, .int .i64 i.d, .int .i64 i.a, .int .i64 i.k] 114); simpa using this)
    have hFi_0 : ∀ oo, ((w.alloc (Obj.cells #[.int .i64 i.op, .int .i64 i.d, .int .i64 i.a, .int .i64 i.k] 114))).frozen? ⟨w.heap.size, oo, none⟩ = false := fun oo => by simp
    generalize (w.alloc (Obj.cells #[.int .i64 i.op, .int .i64 i.d, .int .i64 i.a, .int .i64 i.k] 114)) = w0 at *
    have yi : w.heap.size < w0.heap.size := by omega
    have xi0 := hBi_0 0 _ rfl
    have xi1 := hBi_0 1 _ rfl
    have xi2 := hBi_0 2 _ rfl
    have xi3 := hBi_0 3 _ rfl
    have fi := hFi_0
    go_wp2_with fail
    refine (specInsOk_any i _).mono ?_
    rintro e w1 ⟨rfl, hy⟩
    simp only [q0]
    clear xi0 xi1 xi2 xi3 yi
    clear fi
    have hs1 := hy.size
    try simp at hs1
    have he1 : Ext w w1 := Ext.trans (Ext.hold he0) hy
    have hBi_1 : Bx w1 (w.heap.size) [.int .i64 i.op, .int .i64 i.d, .int .i64 i.a, .int .i64 i.k] := hy.bx (Bx.hold hBi_0) (by first | omega | (simp; done) | (simp; omega))
    have hFi_1 : ∀ oo, w1.frozen? ⟨w.heap.size, oo, none⟩ = false := fun oo => (hy.frozen (by first | omega | (simp; done) | (simp; omega))).trans ((fz_hold hFi_0) oo)
    try clear hBi_0 hFi_0
    clear hy
    have yi : w.heap.size < w1.heap.size := by omega
    have xi0 := hBi_1 0 _ rfl
    have xi1 := hBi_1 1 _ rfl
    have xi2 := hBi_1 2 _ rfl
    have xi3 := hBi_1 3 _ rfl
    have fi := hFi_1
    go_wp2
    go_ret
    exact ⟨by rw [HC.out]; rfl, Ext.hold he1⟩
  cases q1 : (i.op != 0)
  · 
    have HC := hide (show plainB i = false by unfold plainB; rw [q0, q1]; rfl)
    go_enter Try.func98, Try.ntmps98
    go_upto_region 1 with fail
    have he0 : Ext w (w.alloc (Obj.cells #[.int .i64 i.op, .int .i64 i.d, .int .i64 i.a, .int .i64 i.k] 114)) := (Ext.auto)
    have hs0 : w.heap.size + 1 ≤ ((w.alloc (Obj.cells #[.int .i64 i.op, .int .i64 i.d, .int .i64 i.a, .int .i64 i.k] 114))).heap.size := by simp
    have hq0 := hide (show ((w.alloc (Obj.cells #[.int .i64 i.op, .int .i64 i.d, .int .i64 i.a, .int .i64 i.k] 114))).heap.size = w.heap.size + 1 by simp)
    have hBi_0 : Bx (w.alloc (Obj.cells #[.int .i64 i.op, .int .i64 i.d, .int .i64 i.a, .int .i64 i.k] 114)) (w.heap.size) [.int .i64 i.op, .int .i64 i.d, .int .i64 i.a, .int .i64 i.k] := (by have := (Bx.new w #[.int .i64 i.op, .int .i64 i.d, .int .i64 i.a, .int .i64 i.k] 114); simpa using this)
    have hFi_0 : ∀ oo, ((w.alloc (Obj.cells #[.int .i64 i.op, .int .i64 i.d, .int .i64 i.a, .int .i64 i.k] 114))).frozen? ⟨w.heap.size, oo, none⟩ = false := fun oo => by simp
    generalize (w.alloc (Obj.cells #[.int .i64 i.op, .int .i64 i.d, .int .i64 i.a, .int .i64 i.k] 114)) = w0 at *
    have yi : w.heap.size < w0.heap.size := by omega
    have xi0 := hBi_0 0 _ rfl
    have xi1 := hBi_0 1 _ rfl
    have xi2 := hBi_0 2 _ rfl
    have xi3 := hBi_0 3 _ rfl
    have fi := hFi_0
    go_wp2_with fail
    refine (specInsOk_any i _).mono ?_
    rintro e w1 ⟨rfl, hy⟩
    simp only [q0]
    clear xi0 xi1 xi2 xi3 yi
    clear fi
    have hs1 := hy.size
    try simp at hs1
    have he1 : Ext w w1 := Ext.trans (Ext.hold he0) hy
    have hBi_1 : Bx w1 (w.heap.size) [.int .i64 i.op, .int .i64 i.d, .int .i64 i.a, .int .i64 i.k] := hy.bx (Bx.hold hBi_0) (by first | omega | (simp; done) | (simp; omega))
    have hFi_1 : ∀ oo, w1.frozen? ⟨w.heap.size, oo, none⟩ = false := fun oo => (hy.frozen (by first | omega | (simp; done) | (simp; omega))).trans ((fz_hold hFi_0) oo)
    try clear hBi_0 hFi_0
    clear hy
    have yi : w.heap.size < w1.heap.size := by omega
    have xi0 := hBi_1 0 _ rfl
    have xi1 := hBi_1 1 _ rfl
    have xi2 := hBi_1 2 _ rfl
    have xi3 := hBi_1 3 _ rfl
    have fi := hFi_1
    go_wp2
    go_ret
    exact ⟨by rw [HC.out]; rfl, Ext.hold he1⟩
  · 
    have HC := hide (show plainB i = !endB i.op by unfold plainB; rw [q0, q1]; rfl)
    go_enter Try.func98, Try.ntmps98
    go_upto_region 1 with fail
    have he0 : Ext w (w.alloc (Obj.cells #[.int .i64 i.op, .int .i64 i.d, .int .i64 i.a, .int .i64 i.k] 114)) := (Ext.auto)
    have hs0 : w.heap.size + 1 ≤ ((w.alloc (Obj.cells #[.int .i64 i.op, .int .i64 i.d, .int .i64 i.a, .int .i64 i.k] 114))).heap.size := by simp
    have hq0 := hide (show ((w.alloc (Obj.cells #[.int .i64 i.op, .int .i64 i.d, .int .i64 i.a, .int .i64 i.k] 114))).heap.size = w.heap.size + 1 by simp)
    have hBi_0 : Bx (w.alloc (Obj.cells #[.int .i64 i.op, .int .i64 i.d, .int .i64 i.a, .int .i64 i.k] 114)) (w.heap.size) [.int .i64 i.op, .int .i64 i.d, .int .i64 i.a, .int .i64 i.k] := (by have := (Bx.new w #[.int .i64 i.op, .int .i64 i.d, .int .i64 i.a, .int .i64 i.k] 114); simpa using this)
    have hFi_0 : ∀ oo, ((w.alloc (Obj.cells #[.int .i64 i.op, .int .i64 i.d, .int .i64 i.a, .int .i64 i.k] 114))).frozen? ⟨w.heap.size, oo, none⟩ = false := fun oo => by simp
    generalize (w.alloc (Obj.cells #[.int .i64 i.op, .int .i64 i.d, .int .i64 i.a, .int .i64 i.k] 114)) = w0 at *
    have yi : w.heap.size < w0.heap.size := by omega
    have xi0 := hBi_0 0 _ rfl
    have xi1 := hBi_0 1 _ rfl
    have xi2 := hBi_0 2 _ rfl
    have xi3 := hBi_0 3 _ rfl
    have fi := hFi_0
    go_wp2_with fail
    refine (specInsOk_any i _).mono ?_
    rintro e w1 ⟨rfl, hy⟩
    simp only [q0]
    clear xi0 xi1 xi2 xi3 yi
    clear fi
    have hs1 := hy.size
    try simp at hs1
    have he1 : Ext w w1 := Ext.trans (Ext.hold he0) hy
    have hBi_1 : Bx w1 (w.heap.size) [.int .i64 i.op, .int .i64 i.d, .int .i64 i.a, .int .i64 i.k] := hy.bx (Bx.hold hBi_0) (by first | omega | (simp; done) | (simp; omega))
    have hFi_1 : ∀ oo, w1.frozen? ⟨w.heap.size, oo, none⟩ = false := fun oo => (hy.frozen (by first | omega | (simp; done) | (simp; omega))).trans ((fz_hold hFi_0) oo)
    try clear hBi_0 hFi_0
    clear hy
    have yi : w.heap.size < w1.heap.size := by omega
    have xi0 := hBi_1 0 _ rfl
    have xi1 := hBi_1 1 _ rfl
    have xi2 := hBi_1 2 _ rfl
    have xi3 := hBi_1 3 _ rfl
    have fi := hFi_1
    go_wp2_with fail
    refine (specInsEnds_is i.op _).mono ?_
    rintro e w' ⟨rfl, rfl⟩
    cases q2 : endB i.op
    · 
      rw [q2] at HC
      go_wp2
      go_ret
      exact ⟨by rw [HC.out]; rfl, Ext.hold he1⟩
    · 
      rw [q2] at HC
      go_wp2
      go_ret
      exact ⟨by rw [HC.out]; rfl, Ext.hold he1⟩

set_option maxHeartbeats 16000000 in
theorem specBlkOk_any (pc : Int) (l : List InsIns) (v : Value) (w : World) (h : Sl w (Old w) v l) (hp : Fits pc) :
    Calls Try.prog 107 #[.int .i64 pc, v] w fun e w' => e = .returned (.bool (blkOkB pc l)) ∧ Ext w w' := by
  obtain ⟨Al, cl, rfl, hll, hml⟩ := h.form
  unfold maxLen at hml
  have hw64 : IntKind.i64.wrap (64 - (l.length : Int)) = 64 - (l.length : Int) := by rw [IntKind.wrap_i64]; omega
  cases q0 : inB (l.length : Int) 1 8
  · have HC := hide (show blkOkB pc l = false by unfold blkOkB; rw [q0]; rfl)
    go_enter Try.func107, Try.ntmps107
    go_wp2_with (go_at_call 37; refine (l1In_any _ _ _ _).mono ?_; rintro e w' ⟨rfl, rfl⟩)
    go_ret
    exact ⟨by rw [HC.out]; rfl, Ext.auto⟩
  cases q1 : inB pc 0 (64 - (l.length : Int))
  · have HC := hide (show blkOkB pc l = false by unfold blkOkB; rw [q0, q1]; rfl)
    go_enter Try.func107, Try.ntmps107
    go_wp2_with (go_at_call 37; refine (l1In_any _ _ _ _).mono ?_; rintro e w' ⟨rfl, rfl⟩)
    go_ret
    exact ⟨by rw [HC.out]; rfl, Ext.auto⟩
  have HY := hide (fun hall : AllAt l l.length => blkOk_yes q0 q1 hall)
  have HNO := hide (fun (k : Nat) (hk : k < l.length) (hno : okAt l k = false) => blkOk_no (pc := pc) hk hno)
  have hlen := (inB_iff.1 q0).2
  go_enter Try.func107, Try.ntmps107
  go_wp2_with (go_at_call 37; refine (l1In_any _ _ _ _).mono ?_; rintro e w' ⟨rfl, rfl⟩)
  go_loopw [5] (fun vk wz => ∃ k : Nat, vk = .int .i64 (k : Int) ∧ k ≤ l.length ∧ Hid (AllAt l k) ∧ Ext w wz) (fun vk _ => l.length - (intOf vk).toNat)
  case atStart => exact ⟨0, rfl, by omega, AllAt.zero l, Ext.auto⟩
  case round =>
    obtain ⟨w1, hwr⟩ : ∃ w1 : World, w1 = wr := ⟨_, rfl⟩
    subst hwr
    obtain ⟨k, rfl, hle, HN, hE⟩ := hrel
    by_cases hlt : k < l.length
    · have h1 := h.ext hE
      obtain ⟨b, off, rfl, hbo, hk0, e0, e1, e2, e3⟩ := at_InsIns h1 hlt
      have z0 : (0 : Int) ≤ (k : Int) := by omega
      have z1 : (k : Int) < (l.length : Int) := by omega
      have zl : IntKind.i64.wrap ((l.length : Int) - 1) = (l.length : Int) - 1 := by rw [IntKind.wrap_i64]; omega
      cases p : plainB l[k]
      · have HP := hide p
        clear p
        by_cases hin : k + 1 < l.length
        · have HF := hide (HNO.out k hlt (okAt_inner hin HP.out))
          have z2 : decide ((k : Int) < (l.length : Int) - 1) = true := decide_eq_true (by omega)
          go_wp2_with (go_at_call 98; refine (l7Plain_is l[k] _).mono ?_; rintro e w2 ⟨rfl, hy⟩; rw [HP.out])
          go_ret
          exact ⟨by rw [HF.out]; rfl, hE.trans hy⟩
        · have z2 : decide ((k : Int) < (l.length : Int) - 1) = false := decide_eq_false (by omega)
          go_wp2_with fail
          refine (l7Plain_is l[k] _).mono ?_
          rintro e w2 ⟨rfl, hy⟩
          rw [HP.out]
          clear e0 e1 e2 e3
          obtain ⟨b', off', hb', hbo2, hk02, e0, e1, e2, e3⟩ := at_InsIns (h1.ext hy) hlt
          cases hb'
          cases p0 : insOkB l[k]
          · have HF := hide (HNO.out k hlt (okAt_bad hlt p0))
            have HQ := hide p0
            clear p0
            go_wp2_with (go_at_call 112; refine (specInsOk_any l[k] _).mono ?_; rintro e w3 ⟨rfl, hy3⟩; rw [HQ.out])
            go_ret
            exact ⟨by rw [HF.out]; rfl, (hE.trans hy).trans hy3⟩
          · have HQ := hide p0
            clear p0
            go_wp2_with fail
            refine (specInsOk_any l[k] _).mono ?_
            rintro e w3 ⟨rfl, hy3⟩
            rw [HQ.out]
            clear e0 e1 e2 e3
            obtain ⟨b', off', hb', hbo3, hk03, e0, e1, e2, e3⟩ := at_InsIns ((h1.ext hy).ext hy3) hlt
            cases hb'
            cases p1 : endB l[k].op
            · have HF := hide (HNO.out k hlt (okAt_open hlt HP.out HQ.out p1))
              have HR := hide p1
              clear p1
              go_wp2_with (go_at_call 113; refine (specInsEnds_is l[k].op _).mono ?_; rintro e w4 ⟨rfl, rfl⟩; rw [HR.out])
              go_ret
              exact ⟨by rw [HF.out]; rfl, (hE.trans hy).trans hy3⟩
            · have HT := hide (HN.out.next (okAt_last hlt hin HQ.out p1))
              have HR := hide p1
              clear p1
              go_wp2_with (go_at_call 113; refine (specInsEnds_is l[k].op _).mono ?_; rintro e w4 ⟨rfl, rfl⟩; rw [HR.out])
              go_round
              case rel => exact ⟨k + 1, by go_num, by omega, HT, (hE.trans hy).trans hy3⟩
              case measure => (simp [intOf]; try omega)
      · have HT := hide (HN.out.next (okAt_plain hlt p))
        have HP := hide p
        clear p
        go_wp2_with (go_at_call 98; refine (l7Plain_is l[k] _).mono ?_; rintro e w2 ⟨rfl, hy⟩; rw [HP.out])
        go_round
        case rel => exact ⟨k + 1, by go_num, by omega, HT, hE.trans hy⟩
        case measure => (simp [intOf]; try omega)
    · obtain rfl : k = l.length := by omega
      have HF := hide (HY.out HN.out)
      go_wp2
      go_ret
      exact ⟨by rw [HF.out]; rfl, hE⟩

end Go.Proofs.Yteaacelfnkiboaa
