/-
  What the laws on pieces of code call.
-/
import Derived.Test.YtokibcicoomceaaDoorDrawS
import Derived.Test.YtokibcicoomceaaDoorBlkOkI
import Derived.Deep.DeepCutAuto
import Derived.Laws.StructEq
import Derived.StillTailTactics
namespace Go.Proofs.YtokibcicoomceaaDoor
open Go.RowKit

set_option linter.unusedVariables false
set_option linter.unusedSimpArgs false
set_option maxRecDepth 100000

theorem laOk_any (w : World) : Calls Tryd.prog 12 #[] w fun e w' => e = .returned (.bool true) ∧ w = w' := by
  go_enter Tryd.func12, Tryd.ntmps12
  go_wp2_with (go_at_call 52; refine (implWrdOk_any _ _).mono ?_; rintro e w' ⟨rfl, rfl⟩)
  go_ret
  exact ⟨rfl, rfl⟩

theorem laIntsN_any (la lb : List Int) (va vb : Value) (w : World) (ha : Sl w (Old w) va la) (hb : Sl w (Old w) vb lb) :
    Calls Tryd.prog 22 #[va, vb] w fun e w' => e = .returned (.bool (decide (la = lb))) ∧ ∃ n, w' = w.drewN n := by
  obtain ⟨A, ca, rfl, hla, hma⟩ := ha.form
  obtain ⟨B, cb, rfl, hlb, hmb⟩ := hb.form
  unfold maxLen at hma hmb
  by_cases hl : la.length = lb.length
  · have hn : ((la.length : Int) != (lb.length : Int)) = false := by simp [hl]
    have HL := hide hl
    clear hl
    go_enter Tryd.func22, Tryd.ntmps22
    go_wp2
    go_loopw [5] (fun i wr => ∃ k : Nat, k ≤ la.length ∧ i = .int .i64 k ∧ (∃ n, wr = w.drewN n) ∧ la.take k = lb.take k) (fun i _ => la.length - (intOf i).toNat)
    case atStart => exact ⟨0, by omega, rfl, ⟨0, rfl⟩, rfl⟩
    case round =>
      obtain ⟨k, hk, rfl, ⟨n, rfl⟩, ht⟩ := hrel
      have HT := hide ht
      clear ht
      by_cases hlt : k < la.length
      · have hlt' : k < lb.length := by have := HL.out; omega
        obtain ⟨b, off, rfl, hbo, hk0, e0⟩ := at_Int ha hlt
        obtain ⟨b', off', rfl, hbo', hk1, g0⟩ := at_Int hb hlt'
        have z0 : (0 : Int) ≤ (k : Int) := by omega
        have z1 : (k : Int) < (la.length : Int) := by omega
        have z2 : (k : Int) < (lb.length : Int) := by omega
        have TS := hide (take_both la lb k hlt hlt' HT.out)
        go_wp2_with fail
        by_cases hq : la[k] = lb[k]
        · have d1 : (la[k] != lb[k]) = false := by simp [hq]
          have HQ := hide hq
          clear hq
          go_quiet (fail)
          go_wp2
          go_roundw
          case rel => exact ⟨k + 1, by omega, by go_num, ⟨n + nq, by simp⟩, TS.out.1 HQ.out⟩
          case measure => simp [intOf]; omega
        · have d1 : (la[k] != lb[k]) = true := by simp [hq]
          have HQ := hide hq
          clear hq
          go_quiet (fail)
          go_wp2
          go_ret
          exact ⟨ret_no (TS.out.2 HQ.out), n + nq, by simp⟩
      · obtain rfl : k = la.length := by omega
        go_wp2
        go_ret
        exact ⟨ret_yes (take_all la lb HL.out HT.out), _, rfl⟩
  · have hn : ((la.length : Int) != (lb.length : Int)) = true := by simp; omega
    have HL := hide hl
    clear hl
    go_enter Tryd.func22, Tryd.ntmps22
    go_wp2
    go_ret
    exact ⟨ret_no (fun e => HL.out (by rw [e])), 0, rfl⟩
theorem laInts_any (la lb : List Int) (va vb : Value) (w : World) (ha : Sl w (Old w) va la) (hb : Sl w (Old w) vb lb) :
    Calls Tryd.prog 22 #[va, vb] w fun e w' => e = .returned (.bool (decide (la = lb))) ∧ Ext w w' :=
  (laIntsN_any la lb va vb w ha hb).mono fun e w' ⟨h, n, hn⟩ => ⟨h, by rw [hn]; exact (Ext.refl _).drewN n⟩

theorem Sl.dropN {α : Type} [Rep α] {w : World} {S : Nat → Prop} {A : Option Addr} {n c : Nat} {l : List α} (h : Sl w S (.slice A n c) l) {k : Nat} (hk : k < l.length) :
    ∃ b off, A = some ⟨b, off, none⟩ ∧ n = l.length ∧ l.length ≤ c ∧ c ≤ maxLen ∧ Sl w S (.slice (some ⟨b, off + k * Rep.sz α, none⟩) (n - k) (c - k)) (l.drop k) := by
  obtain ⟨A', c', h1, h2, h3, h0, h4⟩ := h
  injection h1 with e1 e2 e3
  subst e1 e2 e3
  have hne : l ≠ [] := by intro e; simp [e] at hk
  obtain ⟨b, off, rfl, hb, hel⟩ := h4 hne
  exact ⟨b, off, rfl, rfl, h2, h3, Sl.drop ⟨_, _, rfl, h2, h3, h0, fun _ => ⟨b, off, rfl, hb, hel⟩⟩ hk⟩

theorem neqInsIns (a b : InsIns) (w : World) : (binOp .neq 30 (.agg #[.int .i64 a.op, .int .i64 a.d, .int .i64 a.a, .int .i64 a.k]) (.agg #[.int .i64 b.op, .int .i64 b.d, .int .i64 b.a, .int .i64 b.k])).run Tryd.prog w = .ok (.bool (decide (a ≠ b))) w := by
  rw [run_neq_struct]
  simp only [InsIns.eq_iff, ne_eq]
  by_cases h1 : a.op = b.op
  rotate_left
  · simp [go_sem, h1]
  by_cases h2 : a.d = b.d
  rotate_left
  · simp [go_sem, h1, h2]
  by_cases h3 : a.a = b.a
  rotate_left
  · simp [go_sem, h1, h2, h3]
  by_cases h4 : a.k = b.k <;> simp [go_sem, h1, h2, h3, h4]
set_option maxHeartbeats 1000000 in
theorem laList_any (la lb : List InsIns) (va vb : Value) (w : World) (ha : Sl w (Old w) va la) (hb : Sl w (Old w) vb lb) :
    Calls Tryd.prog 24 #[va, vb] w fun e w' => e = .returned (.bool (decide (la = lb))) ∧ Ext w w' := by
  obtain ⟨A, ca, rfl, hla, hma⟩ := ha.form
  obtain ⟨B, cb, rfl, hlb, hmb⟩ := hb.form
  unfold maxLen at hma hmb
  by_cases hl : la.length = lb.length
  · have hn : ((la.length : Int) != (lb.length : Int)) = false := by simp [hl]
    have HL := hide hl
    clear hl
    go_enter Tryd.func24, Tryd.ntmps24
    go_wp2
    go_loopw [5] (fun i wr => ∃ k : Nat, k ≤ la.length ∧ i = .int .i64 k ∧ Ext w wr ∧ la.take k = lb.take k) (fun i _ => la.length - (intOf i).toNat)
    case atStart => exact ⟨0, by omega, rfl, Ext.refl _, rfl⟩
    case round =>
      obtain ⟨k, hk, rfl, he, ht⟩ := hrel
      have HT := hide ht
      clear ht
      by_cases hlt : k < la.length
      · have hlt' : k < lb.length := by have := HL.out; omega
        obtain ⟨b, off, rfl, hbo, hke, e0, e1, e2, e3⟩ := at_InsIns (ha.ext he) hlt
        obtain ⟨b', off', rfl, hbo', hkg, g0, g1, g2, g3⟩ := at_InsIns (hb.ext he) hlt'
        have z0 : (0 : Int) ≤ (k : Int) := by omega
        have z1 : (k : Int) < (la.length : Int) := by omega
        have z2 : (k : Int) < (lb.length : Int) := by omega
        have TS := hide (take_both la lb k hlt hlt' HT.out)
        by_cases hq : la[k] = lb[k]
        · have d1 : ∀ w, (binOp .neq 30 (.agg #[.int .i64 la[k].op, .int .i64 la[k].d, .int .i64 la[k].a, .int .i64 la[k].k]) (.agg #[.int .i64 lb[k].op, .int .i64 lb[k].d, .int .i64 lb[k].a, .int .i64 lb[k].k])).run Tryd.prog w = .ok (.bool false) w := fun w => by rw [neqInsIns, decide_eq_false (by simpa using hq)]
          have HQ := hide hq
          clear hq
          go_wp2_with fail
          go_quiet (fail)
          go_wp2
          go_roundw
          case rel => exact ⟨k + 1, by omega, by go_num, he.drewN _, TS.out.1 HQ.out⟩
          case measure => simp [intOf]; omega
        · have d1 : ∀ w, (binOp .neq 30 (.agg #[.int .i64 la[k].op, .int .i64 la[k].d, .int .i64 la[k].a, .int .i64 la[k].k]) (.agg #[.int .i64 lb[k].op, .int .i64 lb[k].d, .int .i64 lb[k].a, .int .i64 lb[k].k])).run Tryd.prog w = .ok (.bool true) w := fun w => by rw [neqInsIns, decide_eq_true (by simpa using hq)]
          have HQ := hide hq
          clear hq
          go_wp2_with fail
          go_quiet (fail)
          go_wp2
          go_ret
          exact ⟨ret_no (TS.out.2 HQ.out), he.drewN _⟩
      · obtain rfl : k = la.length := by omega
        go_wp2
        go_ret
        exact ⟨ret_yes (take_all la lb HL.out HT.out), he⟩
  · have hn : ((la.length : Int) != (lb.length : Int)) = true := by simp; omega
    have HL := hide hl
    clear hl
    go_enter Tryd.func24, Tryd.ntmps24
    go_wp2
    go_ret
    exact ⟨ret_no (fun e => HL.out (by rw [e])), Ext.refl _⟩

end Go.Proofs.YtokibcicoomceaaDoor
