/-
  Whether a machine is ok: the program and the reference.
-/
import Derived.Test.YteaacelfnkiboaaWords
namespace Go.Proofs.Yteaacelfnkiboaa
open Go.RowKit

set_option linter.unusedVariables false
set_option linter.unusedSimpArgs false
set_option maxRecDepth 100000

set_option maxHeartbeats 2000000 in
theorem implWords_any (l : List Int) (v : Value) (w : World) (h : Sl w (Old w) v l) :
    Calls Try.prog 92 #[v] w fun e w' => e = .returned (.bool (wordsB l)) ∧ w = w' := by
  obtain ⟨A, c, rfl, hl, hm⟩ := h.form
  unfold maxLen at hm
  go_enter Try.func92, Try.ntmps92
  go_wp2
  go_loop [4, 7] (fun _ i => ∃ k : Nat, k ≤ l.length ∧ i = .int .i64 k ∧ Hid (∀ a, a ∈ l.take k → wordB a = true)) (fun _ i => l.length - (intOf i).toNat)
  case atStart => exact ⟨0, by omega, rfl, by intro a ha; simp at ha⟩
  case round =>
    obtain ⟨k, hk, rfl, HN⟩ := hrel
    by_cases hlt : k < l.length
    · obtain ⟨b, off, rfl, hbo, hk0, e0⟩ := at_Int h hlt
      have z0 : (0 : Int) ≤ (k : Int) := by omega
      have z1 : (k : Int) < (l.length : Int) := by omega
      have hiw := in_word l[k]
      cases hq : wordB l[k]
      · have HF := hide (words_no hlt hq)
        go_wp2_with (go_at_call 51; refine (implWrdOk_any _ _).mono ?_; rintro e w' ⟨rfl, rfl⟩)
        go_ret
        exact ⟨by rw [HF.out]; rfl, rfl⟩
      · have HT := hide (words_next hlt HN.out hq)
        go_wp2_with (go_at_call 51; refine (implWrdOk_any _ _).mono ?_; rintro e w' ⟨rfl, rfl⟩)
        go_round
        case rel => exact ⟨k + 1, by omega, by go_num, HT.out⟩
        case measure => (simp [intOf]; try omega)
    · obtain rfl : k = l.length := by omega
      have HF := hide (words_all HN.out)
      go_wp2
      go_ret
      exact ⟨by rw [HF.out]; rfl, rfl⟩

set_option maxHeartbeats 2000000 in
theorem specWords_any (l : List Int) (v : Value) (w : World) (h : Sl w (Old w) v l) :
    Calls Try.prog 87 #[v] w fun e w' => e = .returned (.bool (wordsB l)) ∧ w = w' := by
  obtain ⟨A, c, rfl, hl, hm⟩ := h.form
  unfold maxLen at hm
  go_enter Try.func87, Try.ntmps87
  go_wp2
  go_loop [3] (fun i => ∃ k : Nat, k ≤ l.length ∧ i = .int .i64 k ∧ Hid (∀ a, a ∈ l.take k → wordB a = true)) (fun i => l.length - (intOf i).toNat)
  case atStart => exact ⟨0, by omega, rfl, by intro a ha; simp at ha⟩
  case round =>
    obtain ⟨k, hk, rfl, HN⟩ := hrel
    by_cases hlt : k < l.length
    · obtain ⟨b, off, rfl, hbo, hk0, e0⟩ := at_Int h hlt
      have z0 : (0 : Int) ≤ (k : Int) := by omega
      have z1 : (k : Int) < (l.length : Int) := by omega
      cases hq : wordB l[k]
      · have HF := hide (words_no hlt hq)
        go_wp2_with (go_at_call 78; refine (specWrdOk_any _ _).mono ?_; rintro e w' ⟨rfl, rfl⟩)
        go_ret
        exact ⟨by rw [HF.out]; rfl, rfl⟩
      · have HT := hide (words_next hlt HN.out hq)
        go_wp2_with (go_at_call 78; refine (specWrdOk_any _ _).mono ?_; rintro e w' ⟨rfl, rfl⟩)
        go_round
        case rel => exact ⟨k + 1, by omega, by go_num, HT.out⟩
        case measure => (simp [intOf]; try omega)
    · obtain rfl : k = l.length := by omega
      have HF := hide (words_all HN.out)
      go_wp2
      go_ret
      exact ⟨by rw [HF.out]; rfl, rfl⟩

set_option maxHeartbeats 16000000 in
theorem implMchOk_any (m : MchMach) (vm1 vm2 vm3 vm4 : Value) (w : World) (hm1 : Sl w (Old w) vm1 m.regs) (hm2 : Sl w (Old w) vm2 m.mem) (hm3 : Sl w (Old w) vm3 m.ins) (hm4 : Sl w (Old w) vm4 m.outs)  :
    Calls Try.prog 62 #[.agg #[vm1, .int .i64 m.pc, vm2, .int .i64 m.save, .bool m.lets, .bool m.waits, .int .i64 m.halt, vm3, vm4, .int .i64 m.count]] w fun e w' => e = .returned (.bool (mchOkB m)) ∧ Ext w w' := by
  obtain ⟨Am1, cm1, rfl, hlm1, hmm1⟩ := hm1.form
  obtain ⟨Am2, cm2, rfl, hlm2, hmm2⟩ := hm2.form
  obtain ⟨Am3, cm3, rfl, hlm3, hmm3⟩ := hm3.form
  obtain ⟨Am4, cm4, rfl, hlm4, hmm4⟩ := hm4.form
  have he0 : Ext w (w.alloc (Obj.cells #[(.slice Am1 m.regs.length cm1), .int .i64 m.pc, (.slice Am2 m.mem.length cm2), .int .i64 m.save, .bool m.lets, .bool m.waits, .int .i64 m.halt, (.slice Am3 m.ins.length cm3), (.slice Am4 m.outs.length cm4), .int .i64 m.count] 46)) := Ext.auto
  have g1 := hm1.ext he0
  have g2 := hm2.ext he0
  have g3 := hm3.ext he0
  have g4 := hm4.ext he0
  have hml : ∀ n k : Nat, ((n : Int) == (k : Int)) = (n == k) := fun n k => by rw [Bool.eq_iff_iff]; simp; try omega
  cases q0 : (m.regs.length == 4)
  · 
    have r0 : ((m.regs.length : Int) == 4) = false := by have := q0; simp at this ⊢; omega
    have HC := hide (show mchOkB m = false by unfold mchOkB; rw [q0]; simp)
    clear hml q0
    go_enter Try.func62, Try.ntmps62
    go_wp2_with (first | (go_at_call 92; with_reducible refine (implWords_any m.regs _ _ g1).mono ?_; rintro e w' ⟨rfl, rfl⟩) | (go_at_call 92; with_reducible refine (implWords_any m.mem _ _ g2).mono ?_; rintro e w' ⟨rfl, rfl⟩) | (go_at_call 92; with_reducible refine (implWords_any m.ins _ _ g3).mono ?_; rintro e w' ⟨rfl, rfl⟩) | (go_at_call 92; with_reducible refine (implWords_any m.outs _ _ g4).mono ?_; rintro e w' ⟨rfl, rfl⟩) | (go_at_call 51; refine (implWrdOk_any _ _).mono ?_; rintro e w' ⟨rfl, rfl⟩) | (go_at_call 48; refine (in_any _ _ _ _).mono ?_; rintro e w' ⟨rfl, rfl⟩))
    go_ret
    exact ⟨by rw [HC.out]; rfl, Ext.auto⟩
  have r0 : ((m.regs.length : Int) == 4) = true := by have := q0; simp at this ⊢; omega
  cases q1 : (m.mem.length == 64)
  · 
    have r1 : ((m.mem.length : Int) == 64) = false := by have := q1; simp at this ⊢; omega
    have HC := hide (show mchOkB m = false by unfold mchOkB; rw [q1]; simp)
    clear hml q0 q1
    go_enter Try.func62, Try.ntmps62
    go_wp2_with (first | (go_at_call 92; with_reducible refine (implWords_any m.regs _ _ g1).mono ?_; rintro e w' ⟨rfl, rfl⟩) | (go_at_call 92; with_reducible refine (implWords_any m.mem _ _ g2).mono ?_; rintro e w' ⟨rfl, rfl⟩) | (go_at_call 92; with_reducible refine (implWords_any m.ins _ _ g3).mono ?_; rintro e w' ⟨rfl, rfl⟩) | (go_at_call 92; with_reducible refine (implWords_any m.outs _ _ g4).mono ?_; rintro e w' ⟨rfl, rfl⟩) | (go_at_call 51; refine (implWrdOk_any _ _).mono ?_; rintro e w' ⟨rfl, rfl⟩) | (go_at_call 48; refine (in_any _ _ _ _).mono ?_; rintro e w' ⟨rfl, rfl⟩))
    go_ret
    exact ⟨by rw [HC.out]; rfl, Ext.auto⟩
  have r1 : ((m.mem.length : Int) == 64) = true := by have := q1; simp at this ⊢; omega
  cases q2 : wordsB m.regs
  · 
    have r2 : wordsB m.regs = false := by exact q2
    have HC := hide (show mchOkB m = false by unfold mchOkB; rw [q2]; simp)
    clear hml q0 q1 q2
    go_enter Try.func62, Try.ntmps62
    go_wp2_with (first | (go_at_call 92; with_reducible refine (implWords_any m.regs _ _ g1).mono ?_; rintro e w' ⟨rfl, rfl⟩) | (go_at_call 92; with_reducible refine (implWords_any m.mem _ _ g2).mono ?_; rintro e w' ⟨rfl, rfl⟩) | (go_at_call 92; with_reducible refine (implWords_any m.ins _ _ g3).mono ?_; rintro e w' ⟨rfl, rfl⟩) | (go_at_call 92; with_reducible refine (implWords_any m.outs _ _ g4).mono ?_; rintro e w' ⟨rfl, rfl⟩) | (go_at_call 51; refine (implWrdOk_any _ _).mono ?_; rintro e w' ⟨rfl, rfl⟩) | (go_at_call 48; refine (in_any _ _ _ _).mono ?_; rintro e w' ⟨rfl, rfl⟩))
    go_ret
    exact ⟨by rw [HC.out]; rfl, Ext.auto⟩
  have r2 : wordsB m.regs = true := by exact q2
  cases q3 : wordsB m.mem
  · 
    have r3 : wordsB m.mem = false := by exact q3
    have HC := hide (show mchOkB m = false by unfold mchOkB; rw [q3]; simp)
    clear hml q0 q1 q2 q3
    go_enter Try.func62, Try.ntmps62
    go_wp2_with (first | (go_at_call 92; with_reducible refine (implWords_any m.regs _ _ g1).mono ?_; rintro e w' ⟨rfl, rfl⟩) | (go_at_call 92; with_reducible refine (implWords_any m.mem _ _ g2).mono ?_; rintro e w' ⟨rfl, rfl⟩) | (go_at_call 92; with_reducible refine (implWords_any m.ins _ _ g3).mono ?_; rintro e w' ⟨rfl, rfl⟩) | (go_at_call 92; with_reducible refine (implWords_any m.outs _ _ g4).mono ?_; rintro e w' ⟨rfl, rfl⟩) | (go_at_call 51; refine (implWrdOk_any _ _).mono ?_; rintro e w' ⟨rfl, rfl⟩) | (go_at_call 48; refine (in_any _ _ _ _).mono ?_; rintro e w' ⟨rfl, rfl⟩))
    go_ret
    exact ⟨by rw [HC.out]; rfl, Ext.auto⟩
  have r3 : wordsB m.mem = true := by exact q3
  cases q4 : wordB m.pc
  · 
    have r4 : inB m.pc 0 65535 = false := by rw [in_word]; exact q4
    have HC := hide (show mchOkB m = false by unfold mchOkB; rw [q4]; simp)
    clear hml q0 q1 q2 q3 q4
    go_enter Try.func62, Try.ntmps62
    go_wp2_with (first | (go_at_call 92; with_reducible refine (implWords_any m.regs _ _ g1).mono ?_; rintro e w' ⟨rfl, rfl⟩) | (go_at_call 92; with_reducible refine (implWords_any m.mem _ _ g2).mono ?_; rintro e w' ⟨rfl, rfl⟩) | (go_at_call 92; with_reducible refine (implWords_any m.ins _ _ g3).mono ?_; rintro e w' ⟨rfl, rfl⟩) | (go_at_call 92; with_reducible refine (implWords_any m.outs _ _ g4).mono ?_; rintro e w' ⟨rfl, rfl⟩) | (go_at_call 51; refine (implWrdOk_any _ _).mono ?_; rintro e w' ⟨rfl, rfl⟩) | (go_at_call 48; refine (in_any _ _ _ _).mono ?_; rintro e w' ⟨rfl, rfl⟩))
    go_ret
    exact ⟨by rw [HC.out]; rfl, Ext.auto⟩
  have r4 : inB m.pc 0 65535 = true := by rw [in_word]; exact q4
  cases q5 : wordB m.save
  · 
    have r5 : inB m.save 0 65535 = false := by rw [in_word]; exact q5
    have HC := hide (show mchOkB m = false by unfold mchOkB; rw [q5]; simp)
    clear hml q0 q1 q2 q3 q4 q5
    go_enter Try.func62, Try.ntmps62
    go_wp2_with (first | (go_at_call 92; with_reducible refine (implWords_any m.regs _ _ g1).mono ?_; rintro e w' ⟨rfl, rfl⟩) | (go_at_call 92; with_reducible refine (implWords_any m.mem _ _ g2).mono ?_; rintro e w' ⟨rfl, rfl⟩) | (go_at_call 92; with_reducible refine (implWords_any m.ins _ _ g3).mono ?_; rintro e w' ⟨rfl, rfl⟩) | (go_at_call 92; with_reducible refine (implWords_any m.outs _ _ g4).mono ?_; rintro e w' ⟨rfl, rfl⟩) | (go_at_call 51; refine (implWrdOk_any _ _).mono ?_; rintro e w' ⟨rfl, rfl⟩) | (go_at_call 48; refine (in_any _ _ _ _).mono ?_; rintro e w' ⟨rfl, rfl⟩))
    go_ret
    exact ⟨by rw [HC.out]; rfl, Ext.auto⟩
  have r5 : inB m.save 0 65535 = true := by rw [in_word]; exact q5
  cases q6 : wordsB m.ins
  · 
    have r6 : wordsB m.ins = false := by exact q6
    have HC := hide (show mchOkB m = false by unfold mchOkB; rw [q6]; simp)
    clear hml q0 q1 q2 q3 q4 q5 q6
    go_enter Try.func62, Try.ntmps62
    go_wp2_with (first | (go_at_call 92; with_reducible refine (implWords_any m.regs _ _ g1).mono ?_; rintro e w' ⟨rfl, rfl⟩) | (go_at_call 92; with_reducible refine (implWords_any m.mem _ _ g2).mono ?_; rintro e w' ⟨rfl, rfl⟩) | (go_at_call 92; with_reducible refine (implWords_any m.ins _ _ g3).mono ?_; rintro e w' ⟨rfl, rfl⟩) | (go_at_call 92; with_reducible refine (implWords_any m.outs _ _ g4).mono ?_; rintro e w' ⟨rfl, rfl⟩) | (go_at_call 51; refine (implWrdOk_any _ _).mono ?_; rintro e w' ⟨rfl, rfl⟩) | (go_at_call 48; refine (in_any _ _ _ _).mono ?_; rintro e w' ⟨rfl, rfl⟩))
    go_ret
    exact ⟨by rw [HC.out]; rfl, Ext.auto⟩
  have r6 : wordsB m.ins = true := by exact q6
  cases q7 : wordsB m.outs
  · 
    have r7 : wordsB m.outs = false := by exact q7
    have HC := hide (show mchOkB m = false by unfold mchOkB; rw [q7]; simp)
    clear hml q0 q1 q2 q3 q4 q5 q6 q7
    go_enter Try.func62, Try.ntmps62
    go_wp2_with (first | (go_at_call 92; with_reducible refine (implWords_any m.regs _ _ g1).mono ?_; rintro e w' ⟨rfl, rfl⟩) | (go_at_call 92; with_reducible refine (implWords_any m.mem _ _ g2).mono ?_; rintro e w' ⟨rfl, rfl⟩) | (go_at_call 92; with_reducible refine (implWords_any m.ins _ _ g3).mono ?_; rintro e w' ⟨rfl, rfl⟩) | (go_at_call 92; with_reducible refine (implWords_any m.outs _ _ g4).mono ?_; rintro e w' ⟨rfl, rfl⟩) | (go_at_call 51; refine (implWrdOk_any _ _).mono ?_; rintro e w' ⟨rfl, rfl⟩) | (go_at_call 48; refine (in_any _ _ _ _).mono ?_; rintro e w' ⟨rfl, rfl⟩))
    go_ret
    exact ⟨by rw [HC.out]; rfl, Ext.auto⟩
  have r7 : wordsB m.outs = true := by exact q7
  cases q8 : inB m.halt 0 4
  · 
    have r8 : inB m.halt 0 4 = false := by exact q8
    have HC := hide (show mchOkB m = false by unfold mchOkB; rw [q8]; simp)
    clear hml q0 q1 q2 q3 q4 q5 q6 q7 q8
    go_enter Try.func62, Try.ntmps62
    go_wp2_with (first | (go_at_call 92; with_reducible refine (implWords_any m.regs _ _ g1).mono ?_; rintro e w' ⟨rfl, rfl⟩) | (go_at_call 92; with_reducible refine (implWords_any m.mem _ _ g2).mono ?_; rintro e w' ⟨rfl, rfl⟩) | (go_at_call 92; with_reducible refine (implWords_any m.ins _ _ g3).mono ?_; rintro e w' ⟨rfl, rfl⟩) | (go_at_call 92; with_reducible refine (implWords_any m.outs _ _ g4).mono ?_; rintro e w' ⟨rfl, rfl⟩) | (go_at_call 51; refine (implWrdOk_any _ _).mono ?_; rintro e w' ⟨rfl, rfl⟩) | (go_at_call 48; refine (in_any _ _ _ _).mono ?_; rintro e w' ⟨rfl, rfl⟩))
    go_ret
    exact ⟨by rw [HC.out]; rfl, Ext.auto⟩
  have r8 : inB m.halt 0 4 = true := by exact q8
  cases q9 : inB m.count 0 1000000
  · 
    have r9 : inB m.count 0 1000000 = false := by exact q9
    have HC := hide (show mchOkB m = false by unfold mchOkB; rw [q9]; simp)
    clear hml q0 q1 q2 q3 q4 q5 q6 q7 q8 q9
    go_enter Try.func62, Try.ntmps62
    go_wp2_with (first | (go_at_call 92; with_reducible refine (implWords_any m.regs _ _ g1).mono ?_; rintro e w' ⟨rfl, rfl⟩) | (go_at_call 92; with_reducible refine (implWords_any m.mem _ _ g2).mono ?_; rintro e w' ⟨rfl, rfl⟩) | (go_at_call 92; with_reducible refine (implWords_any m.ins _ _ g3).mono ?_; rintro e w' ⟨rfl, rfl⟩) | (go_at_call 92; with_reducible refine (implWords_any m.outs _ _ g4).mono ?_; rintro e w' ⟨rfl, rfl⟩) | (go_at_call 51; refine (implWrdOk_any _ _).mono ?_; rintro e w' ⟨rfl, rfl⟩) | (go_at_call 48; refine (in_any _ _ _ _).mono ?_; rintro e w' ⟨rfl, rfl⟩))
    go_ret
    exact ⟨by rw [HC.out]; rfl, Ext.auto⟩
  have r9 : inB m.count 0 1000000 = true := by exact q9
  have HC := hide (show mchOkB m = true by unfold mchOkB; rw [q0, q1, q2, q3, q4, q5, q6, q7, q8, q9]; rfl)
  clear hml q0 q1 q2 q3 q4 q5 q6 q7 q8 q9
  go_enter Try.func62, Try.ntmps62
  go_wp2_with (first | (go_at_call 92; with_reducible refine (implWords_any m.regs _ _ g1).mono ?_; rintro e w' ⟨rfl, rfl⟩) | (go_at_call 92; with_reducible refine (implWords_any m.mem _ _ g2).mono ?_; rintro e w' ⟨rfl, rfl⟩) | (go_at_call 92; with_reducible refine (implWords_any m.ins _ _ g3).mono ?_; rintro e w' ⟨rfl, rfl⟩) | (go_at_call 92; with_reducible refine (implWords_any m.outs _ _ g4).mono ?_; rintro e w' ⟨rfl, rfl⟩) | (go_at_call 51; refine (implWrdOk_any _ _).mono ?_; rintro e w' ⟨rfl, rfl⟩) | (go_at_call 48; refine (in_any _ _ _ _).mono ?_; rintro e w' ⟨rfl, rfl⟩))
  go_ret
  exact ⟨by rw [HC.out]; rfl, Ext.auto⟩

set_option maxHeartbeats 16000000 in
theorem specMchOk_any (m : MchMach) (vm1 vm2 vm3 vm4 : Value) (w : World) (hm1 : Sl w (Old w) vm1 m.regs) (hm2 : Sl w (Old w) vm2 m.mem) (hm3 : Sl w (Old w) vm3 m.ins) (hm4 : Sl w (Old w) vm4 m.outs)  :
    Calls Try.prog 54 #[.agg #[vm1, .int .i64 m.pc, vm2, .int .i64 m.save, .bool m.lets, .bool m.waits, .int .i64 m.halt, vm3, vm4, .int .i64 m.count]] w fun e w' => e = .returned (.bool (mchOkB m)) ∧ Ext w w' := by
  obtain ⟨Am1, cm1, rfl, hlm1, hmm1⟩ := hm1.form
  obtain ⟨Am2, cm2, rfl, hlm2, hmm2⟩ := hm2.form
  obtain ⟨Am3, cm3, rfl, hlm3, hmm3⟩ := hm3.form
  obtain ⟨Am4, cm4, rfl, hlm4, hmm4⟩ := hm4.form
  have he0 : Ext w (w.alloc (Obj.cells #[(.slice Am1 m.regs.length cm1), .int .i64 m.pc, (.slice Am2 m.mem.length cm2), .int .i64 m.save, .bool m.lets, .bool m.waits, .int .i64 m.halt, (.slice Am3 m.ins.length cm3), (.slice Am4 m.outs.length cm4), .int .i64 m.count] 46)) := Ext.auto
  have g1 := hm1.ext he0
  have g2 := hm2.ext he0
  have g3 := hm3.ext he0
  have g4 := hm4.ext he0
  have hml : ∀ n k : Nat, ((n : Int) == (k : Int)) = (n == k) := fun n k => by rw [Bool.eq_iff_iff]; simp; try omega
  cases q0 : (m.regs.length == 4)
  · 
    have r0 : ((m.regs.length : Int) == 4) = false := by have := q0; simp at this ⊢; omega
    have HC := hide (show mchOkB m = false by unfold mchOkB; rw [q0]; simp)
    clear hml q0
    go_enter Try.func54, Try.ntmps54
    go_wp2_with (first | (go_at_call 87; with_reducible refine (specWords_any m.regs _ _ g1).mono ?_; rintro e w' ⟨rfl, rfl⟩) | (go_at_call 87; with_reducible refine (specWords_any m.mem _ _ g2).mono ?_; rintro e w' ⟨rfl, rfl⟩) | (go_at_call 87; with_reducible refine (specWords_any m.ins _ _ g3).mono ?_; rintro e w' ⟨rfl, rfl⟩) | (go_at_call 87; with_reducible refine (specWords_any m.outs _ _ g4).mono ?_; rintro e w' ⟨rfl, rfl⟩) | (go_at_call 78; refine (specWrdOk_any _ _).mono ?_; rintro e w' ⟨rfl, rfl⟩) | (go_at_call 37; refine (l1In_any _ _ _ _).mono ?_; rintro e w' ⟨rfl, rfl⟩))
    go_ret
    exact ⟨by rw [HC.out]; rfl, Ext.auto⟩
  have r0 : ((m.regs.length : Int) == 4) = true := by have := q0; simp at this ⊢; omega
  cases q1 : wordsB m.regs
  · 
    have r1 : wordsB m.regs = false := by exact q1
    have HC := hide (show mchOkB m = false by unfold mchOkB; rw [q1]; simp)
    clear hml q0 q1
    go_enter Try.func54, Try.ntmps54
    go_wp2_with (first | (go_at_call 87; with_reducible refine (specWords_any m.regs _ _ g1).mono ?_; rintro e w' ⟨rfl, rfl⟩) | (go_at_call 87; with_reducible refine (specWords_any m.mem _ _ g2).mono ?_; rintro e w' ⟨rfl, rfl⟩) | (go_at_call 87; with_reducible refine (specWords_any m.ins _ _ g3).mono ?_; rintro e w' ⟨rfl, rfl⟩) | (go_at_call 87; with_reducible refine (specWords_any m.outs _ _ g4).mono ?_; rintro e w' ⟨rfl, rfl⟩) | (go_at_call 78; refine (specWrdOk_any _ _).mono ?_; rintro e w' ⟨rfl, rfl⟩) | (go_at_call 37; refine (l1In_any _ _ _ _).mono ?_; rintro e w' ⟨rfl, rfl⟩))
    go_ret
    exact ⟨by rw [HC.out]; rfl, Ext.auto⟩
  have r1 : wordsB m.regs = true := by exact q1
  cases q2 : wordB m.pc
  · 
    have r2 : wordB m.pc = false := by exact q2
    have HC := hide (show mchOkB m = false by unfold mchOkB; rw [q2]; simp)
    clear hml q0 q1 q2
    go_enter Try.func54, Try.ntmps54
    go_wp2_with (first | (go_at_call 87; with_reducible refine (specWords_any m.regs _ _ g1).mono ?_; rintro e w' ⟨rfl, rfl⟩) | (go_at_call 87; with_reducible refine (specWords_any m.mem _ _ g2).mono ?_; rintro e w' ⟨rfl, rfl⟩) | (go_at_call 87; with_reducible refine (specWords_any m.ins _ _ g3).mono ?_; rintro e w' ⟨rfl, rfl⟩) | (go_at_call 87; with_reducible refine (specWords_any m.outs _ _ g4).mono ?_; rintro e w' ⟨rfl, rfl⟩) | (go_at_call 78; refine (specWrdOk_any _ _).mono ?_; rintro e w' ⟨rfl, rfl⟩) | (go_at_call 37; refine (l1In_any _ _ _ _).mono ?_; rintro e w' ⟨rfl, rfl⟩))
    go_ret
    exact ⟨by rw [HC.out]; rfl, Ext.auto⟩
  have r2 : wordB m.pc = true := by exact q2
  cases q3 : (m.mem.length == 64)
  · 
    have r3 : ((m.mem.length : Int) == 64) = false := by have := q3; simp at this ⊢; omega
    have HC := hide (show mchOkB m = false by unfold mchOkB; rw [q3]; simp)
    clear hml q0 q1 q2 q3
    go_enter Try.func54, Try.ntmps54
    go_wp2_with (first | (go_at_call 87; with_reducible refine (specWords_any m.regs _ _ g1).mono ?_; rintro e w' ⟨rfl, rfl⟩) | (go_at_call 87; with_reducible refine (specWords_any m.mem _ _ g2).mono ?_; rintro e w' ⟨rfl, rfl⟩) | (go_at_call 87; with_reducible refine (specWords_any m.ins _ _ g3).mono ?_; rintro e w' ⟨rfl, rfl⟩) | (go_at_call 87; with_reducible refine (specWords_any m.outs _ _ g4).mono ?_; rintro e w' ⟨rfl, rfl⟩) | (go_at_call 78; refine (specWrdOk_any _ _).mono ?_; rintro e w' ⟨rfl, rfl⟩) | (go_at_call 37; refine (l1In_any _ _ _ _).mono ?_; rintro e w' ⟨rfl, rfl⟩))
    go_ret
    exact ⟨by rw [HC.out]; rfl, Ext.auto⟩
  have r3 : ((m.mem.length : Int) == 64) = true := by have := q3; simp at this ⊢; omega
  cases q4 : wordsB m.mem
  · 
    have r4 : wordsB m.mem = false := by exact q4
    have HC := hide (show mchOkB m = false by unfold mchOkB; rw [q4]; simp)
    clear hml q0 q1 q2 q3 q4
    go_enter Try.func54, Try.ntmps54
    go_wp2_with (first | (go_at_call 87; with_reducible refine (specWords_any m.regs _ _ g1).mono ?_; rintro e w' ⟨rfl, rfl⟩) | (go_at_call 87; with_reducible refine (specWords_any m.mem _ _ g2).mono ?_; rintro e w' ⟨rfl, rfl⟩) | (go_at_call 87; with_reducible refine (specWords_any m.ins _ _ g3).mono ?_; rintro e w' ⟨rfl, rfl⟩) | (go_at_call 87; with_reducible refine (specWords_any m.outs _ _ g4).mono ?_; rintro e w' ⟨rfl, rfl⟩) | (go_at_call 78; refine (specWrdOk_any _ _).mono ?_; rintro e w' ⟨rfl, rfl⟩) | (go_at_call 37; refine (l1In_any _ _ _ _).mono ?_; rintro e w' ⟨rfl, rfl⟩))
    go_ret
    exact ⟨by rw [HC.out]; rfl, Ext.auto⟩
  have r4 : wordsB m.mem = true := by exact q4
  cases q5 : wordB m.save
  · 
    have r5 : wordB m.save = false := by exact q5
    have HC := hide (show mchOkB m = false by unfold mchOkB; rw [q5]; simp)
    clear hml q0 q1 q2 q3 q4 q5
    go_enter Try.func54, Try.ntmps54
    go_wp2_with (first | (go_at_call 87; with_reducible refine (specWords_any m.regs _ _ g1).mono ?_; rintro e w' ⟨rfl, rfl⟩) | (go_at_call 87; with_reducible refine (specWords_any m.mem _ _ g2).mono ?_; rintro e w' ⟨rfl, rfl⟩) | (go_at_call 87; with_reducible refine (specWords_any m.ins _ _ g3).mono ?_; rintro e w' ⟨rfl, rfl⟩) | (go_at_call 87; with_reducible refine (specWords_any m.outs _ _ g4).mono ?_; rintro e w' ⟨rfl, rfl⟩) | (go_at_call 78; refine (specWrdOk_any _ _).mono ?_; rintro e w' ⟨rfl, rfl⟩) | (go_at_call 37; refine (l1In_any _ _ _ _).mono ?_; rintro e w' ⟨rfl, rfl⟩))
    go_ret
    exact ⟨by rw [HC.out]; rfl, Ext.auto⟩
  have r5 : wordB m.save = true := by exact q5
  cases q6 : inB m.halt 0 4
  · 
    have r6 : inB m.halt 0 4 = false := by exact q6
    have HC := hide (show mchOkB m = false by unfold mchOkB; rw [q6]; simp)
    clear hml q0 q1 q2 q3 q4 q5 q6
    go_enter Try.func54, Try.ntmps54
    go_wp2_with (first | (go_at_call 87; with_reducible refine (specWords_any m.regs _ _ g1).mono ?_; rintro e w' ⟨rfl, rfl⟩) | (go_at_call 87; with_reducible refine (specWords_any m.mem _ _ g2).mono ?_; rintro e w' ⟨rfl, rfl⟩) | (go_at_call 87; with_reducible refine (specWords_any m.ins _ _ g3).mono ?_; rintro e w' ⟨rfl, rfl⟩) | (go_at_call 87; with_reducible refine (specWords_any m.outs _ _ g4).mono ?_; rintro e w' ⟨rfl, rfl⟩) | (go_at_call 78; refine (specWrdOk_any _ _).mono ?_; rintro e w' ⟨rfl, rfl⟩) | (go_at_call 37; refine (l1In_any _ _ _ _).mono ?_; rintro e w' ⟨rfl, rfl⟩))
    go_ret
    exact ⟨by rw [HC.out]; rfl, Ext.auto⟩
  have r6 : inB m.halt 0 4 = true := by exact q6
  cases q7 : wordsB m.ins
  · 
    have r7 : wordsB m.ins = false := by exact q7
    have HC := hide (show mchOkB m = false by unfold mchOkB; rw [q7]; simp)
    clear hml q0 q1 q2 q3 q4 q5 q6 q7
    go_enter Try.func54, Try.ntmps54
    go_wp2_with (first | (go_at_call 87; with_reducible refine (specWords_any m.regs _ _ g1).mono ?_; rintro e w' ⟨rfl, rfl⟩) | (go_at_call 87; with_reducible refine (specWords_any m.mem _ _ g2).mono ?_; rintro e w' ⟨rfl, rfl⟩) | (go_at_call 87; with_reducible refine (specWords_any m.ins _ _ g3).mono ?_; rintro e w' ⟨rfl, rfl⟩) | (go_at_call 87; with_reducible refine (specWords_any m.outs _ _ g4).mono ?_; rintro e w' ⟨rfl, rfl⟩) | (go_at_call 78; refine (specWrdOk_any _ _).mono ?_; rintro e w' ⟨rfl, rfl⟩) | (go_at_call 37; refine (l1In_any _ _ _ _).mono ?_; rintro e w' ⟨rfl, rfl⟩))
    go_ret
    exact ⟨by rw [HC.out]; rfl, Ext.auto⟩
  have r7 : wordsB m.ins = true := by exact q7
  cases q8 : wordsB m.outs
  · 
    have r8 : wordsB m.outs = false := by exact q8
    have HC := hide (show mchOkB m = false by unfold mchOkB; rw [q8]; simp)
    clear hml q0 q1 q2 q3 q4 q5 q6 q7 q8
    go_enter Try.func54, Try.ntmps54
    go_wp2_with (first | (go_at_call 87; with_reducible refine (specWords_any m.regs _ _ g1).mono ?_; rintro e w' ⟨rfl, rfl⟩) | (go_at_call 87; with_reducible refine (specWords_any m.mem _ _ g2).mono ?_; rintro e w' ⟨rfl, rfl⟩) | (go_at_call 87; with_reducible refine (specWords_any m.ins _ _ g3).mono ?_; rintro e w' ⟨rfl, rfl⟩) | (go_at_call 87; with_reducible refine (specWords_any m.outs _ _ g4).mono ?_; rintro e w' ⟨rfl, rfl⟩) | (go_at_call 78; refine (specWrdOk_any _ _).mono ?_; rintro e w' ⟨rfl, rfl⟩) | (go_at_call 37; refine (l1In_any _ _ _ _).mono ?_; rintro e w' ⟨rfl, rfl⟩))
    go_ret
    exact ⟨by rw [HC.out]; rfl, Ext.auto⟩
  have r8 : wordsB m.outs = true := by exact q8
  cases q9 : inB m.count 0 1000000
  · 
    have r9 : inB m.count 0 1000000 = false := by exact q9
    have HC := hide (show mchOkB m = false by unfold mchOkB; rw [q9]; simp)
    clear hml q0 q1 q2 q3 q4 q5 q6 q7 q8 q9
    go_enter Try.func54, Try.ntmps54
    go_wp2_with (first | (go_at_call 87; with_reducible refine (specWords_any m.regs _ _ g1).mono ?_; rintro e w' ⟨rfl, rfl⟩) | (go_at_call 87; with_reducible refine (specWords_any m.mem _ _ g2).mono ?_; rintro e w' ⟨rfl, rfl⟩) | (go_at_call 87; with_reducible refine (specWords_any m.ins _ _ g3).mono ?_; rintro e w' ⟨rfl, rfl⟩) | (go_at_call 87; with_reducible refine (specWords_any m.outs _ _ g4).mono ?_; rintro e w' ⟨rfl, rfl⟩) | (go_at_call 78; refine (specWrdOk_any _ _).mono ?_; rintro e w' ⟨rfl, rfl⟩) | (go_at_call 37; refine (l1In_any _ _ _ _).mono ?_; rintro e w' ⟨rfl, rfl⟩))
    go_ret
    exact ⟨by rw [HC.out]; rfl, Ext.auto⟩
  have r9 : inB m.count 0 1000000 = true := by exact q9
  have HC := hide (show mchOkB m = true by unfold mchOkB; rw [q0, q1, q2, q3, q4, q5, q6, q7, q8, q9]; rfl)
  clear hml q0 q1 q2 q3 q4 q5 q6 q7 q8 q9
  go_enter Try.func54, Try.ntmps54
  go_wp2_with (first | (go_at_call 87; with_reducible refine (specWords_any m.regs _ _ g1).mono ?_; rintro e w' ⟨rfl, rfl⟩) | (go_at_call 87; with_reducible refine (specWords_any m.mem _ _ g2).mono ?_; rintro e w' ⟨rfl, rfl⟩) | (go_at_call 87; with_reducible refine (specWords_any m.ins _ _ g3).mono ?_; rintro e w' ⟨rfl, rfl⟩) | (go_at_call 87; with_reducible refine (specWords_any m.outs _ _ g4).mono ?_; rintro e w' ⟨rfl, rfl⟩) | (go_at_call 78; refine (specWrdOk_any _ _).mono ?_; rintro e w' ⟨rfl, rfl⟩) | (go_at_call 37; refine (l1In_any _ _ _ _).mono ?_; rintro e w' ⟨rfl, rfl⟩))
  go_ret
  exact ⟨by rw [HC.out]; rfl, Ext.auto⟩

end Go.Proofs.Yteaacelfnkiboaa
