/-
  PolJ
-/
import Derived.Test.YtmbclopkopfngaaQPolM
import Derived.Test.YtmbclopkopfngaaQSymOrdI
import Derived.Deep.DeepCutAuto
namespace Go.Proofs.Ytmbclopkopfngaa
open Go.RowKit

set_option linter.unusedVariables false
set_option linter.unusedSimpArgs false
set_option maxRecDepth 100000

set_option maxHeartbeats 1000000 in
theorem less_any (a b : Int) (w : World) : Calls Try.prog 88 #[.int .i64 a, .int .i64 b] w fun e w' => e = .returned (.bool (decide (a < b))) ∧ Ext w w' := by
  go_enter Try.func88, Try.ntmps88
  go_wp2_with fail
  refine (isNaN_any a _).mono ?_
  rintro e w1 ⟨rfl, hx1⟩
  cases q : decide (a < b)
  all_goals
    go_wp2
    go_ret
    exact ⟨by simp [q], Ext.trans Ext.auto hx1⟩

set_option maxHeartbeats 8000000 in
theorem isSorted_any (l : List Int) (vl : Value) (w : World) (hl : Sl w (Old w) vl l)  :
    Calls Try.prog 72 #[vl] w fun e w' => e = .returned (.bool (allB l.length (ascAtB l))) ∧ Ext w w' := by
  obtain ⟨Al, cl, rfl, hll, hml⟩ := hl.form
  unfold maxLen at hml
  have zw : IntKind.i64.wrap ((l.length : Int) - 1) = (l.length : Int) - 1 := by rw [IntKind.wrap_i64]; omega
  go_enter Try.func72, Try.ntmps72
  go_wp2
  go_loopw [3] (fun i wr => ∃ k : Int, -1 ≤ k ∧ k < (l.length : Int) ∧ i = .int .i64 k ∧ Ext w wr ∧ Hid (∀ j : Nat, k < (j : Int) → j < l.length → ascAtB l j = true)) (fun i _ => (intOf i + 1).toNat)
  case atStart => exact ⟨(l.length : Int) - 1, by omega, by omega, rfl, Ext.auto, fun j h1 h2 => absurd h2 (by omega)⟩
  case round =>
    obtain ⟨k0, hk0, hk1, rfl, hx0, HT⟩ := hrel
    obtain ⟨w1, hw1⟩ : ∃ w1 : World, w1 = wr := ⟨_, rfl⟩
    subst hw1
    by_cases hp : 0 < k0
    rotate_left
    · have q0 : decide (0 < k0) = false := decide_eq_false hp
      have HF := hide (show allB l.length (ascAtB l) = true from allB_yes fun j hj => by
        by_cases h : k0 < (j : Int)
        · exact HT.out j h hj
        · obtain rfl : j = 0 := by omega
          rfl)
      go_wp2
      go_ret
      exact ⟨by rw [HF.out]; rfl, hx0⟩
    obtain ⟨k, rfl⟩ := Int.eq_ofNat_of_zero_le (show 0 ≤ k0 by omega)
    have hlt : k < l.length := by omega
    obtain ⟨b, off, rfl, hbo, hkk, e0⟩ := at_Int (hl.ext hx0) hlt
    obtain ⟨b', off', hbe, hbo', hkk1, e1⟩ := at_Int (hl.ext hx0) (show k - 1 < l.length by omega)
    injection hbe with hbe
    injection hbe with hb1 hb2
    subst hb1 hb2
    have hbo1 : b < w1.heap.size := hbo
    have z0 : (0 : Int) ≤ (k : Int) := by omega
    have z1 : (k : Int) < (l.length : Int) := by omega
    have z2 : (0 : Int) ≤ (k : Int) - 1 := by omega
    have z5 : (1 : Int) ≤ (k : Int) := by omega
    have z3 : (k : Int) - 1 < (l.length : Int) := by omega
    have z4 : ((k : Int) - 1).toNat = k - 1 := by omega
    have zw1 : IntKind.i64.wrap ((k : Int) - 1) = (k : Int) - 1 := by rw [IntKind.wrap_i64]; omega
    have q0 : decide (0 < k) = true := decide_eq_true (by omega)
    have HG := hide (gN_at l k hlt)
    have HG1 := hide (gN_at l (k - 1) (by omega))
    have HK := hide (show (k == 0) = false by simp; omega)
    by_cases ha : l[k] < l[k - 1]
    · 
      have q2 : decide (l[k] < l[k - 1]) = true := decide_eq_true ha
      have HF := hide (show allB l.length (ascAtB l) = false from allB_no hlt (by unfold ascAtB; rw [HG.out, HG1.out, HK.out, decide_eq_false (p := l[k - 1] ≤ l[k]) (by omega)]; rfl))
      clear ha
      go_upto_region 4 with fail
      have hS : ∀ w', Ext w1 w' → ∀ bb oo, bb < w1.heap.size → w'.cell? ⟨bb, oo, none⟩ = w1.cell? ⟨bb, oo, none⟩ := fun w' hx bb oo hb => hx.cell hb
      refine wp_region_plan (fun w' => Ext w1 w') 9 (.float 0 (.float 1 (.float 2 (.float 3 (.float 4 (.float 5 (.float 6 (.float 7 (.float 8 (.tail 9)))))))))) (by kernel_rfl) (by kernel_rfl) (Ext.refl _).drew ?_
      iterate 9 ((refine Plan.float_step (v := ?_) rfl (by rfl) (fun _ _ _ h => h) (fun w' hSw => ?_) ?_; rotate_left; · (go_simp; try with_reducible rfl)); (try simp only [Act.put, List.setIfInBounds_toArray, List.set_cons_zero, List.set_cons_succ]))
      refine Plan.tail_step ?_
      simp only [List.drop_succ_cons, List.drop_zero]
      clear hS
      go_wp2_with fail
      refine (less_any l[k] l[k - 1] _).mono ?_
      rintro e w2 ⟨rfl, hy⟩
      have hx2 : Ext w1 w2 := Ext.trans Ext.auto hy
      clear hy
      go_wp2
      go_ret
      exact ⟨by rw [HF.out]; rfl, hx0.trans hx2⟩
    · 
      have q2 : decide (l[k] < l[k - 1]) = false := decide_eq_false ha
      have HA := hide (show ascAtB l k = true by unfold ascAtB; rw [HG.out, HG1.out, decide_eq_true (p := l[k - 1] ≤ l[k]) (by omega)]; simp)
      clear ha
      go_upto_region 4 with fail
      have hS : ∀ w', Ext w1 w' → ∀ bb oo, bb < w1.heap.size → w'.cell? ⟨bb, oo, none⟩ = w1.cell? ⟨bb, oo, none⟩ := fun w' hx bb oo hb => hx.cell hb
      refine wp_region_plan (fun w' => Ext w1 w') 9 (.float 0 (.float 1 (.float 2 (.float 3 (.float 4 (.float 5 (.float 6 (.float 7 (.float 8 (.tail 9)))))))))) (by kernel_rfl) (by kernel_rfl) (Ext.refl _).drew ?_
      iterate 9 ((refine Plan.float_step (v := ?_) rfl (by rfl) (fun _ _ _ h => h) (fun w' hSw => ?_) ?_; rotate_left; · (go_simp; try with_reducible rfl)); (try simp only [Act.put, List.setIfInBounds_toArray, List.set_cons_zero, List.set_cons_succ]))
      refine Plan.tail_step ?_
      simp only [List.drop_succ_cons, List.drop_zero]
      clear hS
      go_wp2_with fail
      refine (less_any l[k] l[k - 1] _).mono ?_
      rintro e w2 ⟨rfl, hy⟩
      have hx2 : Ext w1 w2 := Ext.trans Ext.auto hy
      clear hy
      go_wp2_with fail
      go_roundw
      case rel => exact ⟨(k : Int) - 1, by omega, by omega, rfl, hx0.trans hx2, fun j h1 h2 => by
        by_cases hj : j = k
        · subst hj; exact HA.out
        · exact HT.out j (by omega) h2⟩
      case measure => (simp [intOf]; try omega)

theorem underC_any (k n : Int) (g : Nat) (w : World) (hc : w.cell? ⟨g, 0, none⟩ = some (.int .i64 n)) (hg : g < w.heap.size) : Calls Try.prog 84 #[.int .i64 k, .pointer (some ⟨g, 0, none⟩)] w fun e w' => e = .returned (.bool (decide (n ≤ k))) ∧ w = w' := by
  cases q : decide (n ≤ k)
  all_goals
    go_enter Try.func84, Try.ntmps84
    go_wp2
    go_ret
    exact ⟨by simp [q], rfl⟩

set_option maxHeartbeats 4000000 in
theorem indexUnder_any (l : List Int) (n : Int) (v : Value) (gb : Nat) (w : World) (h : Sl w (Old w) v l) (hc : w.cell? ⟨gb, 0, none⟩ = some (.int .i64 n)) (hg : gb < w.heap.size) :
    Calls Try.prog 96 #[v, .func (.func 84) #[] #[.pointer (some ⟨gb, 0, none⟩)]] w fun e w' => ∃ r : Int, e = .returned (.int .i64 r) ∧ Ext w w' ∧ (0 ≤ r ↔ ¬ (∀ j, j < l.length → gN l j < n)) := by
  obtain ⟨Al, cl, rfl, hll, hlm⟩ := h.form
  unfold maxLen at hlm
  go_enter Try.func96, Try.ntmps96
  go_wp2
  go_loopw [5, 8] (fun _ i wr => ∃ k : Nat, k ≤ l.length ∧ i = .int .i64 k ∧ Ext w wr ∧ Hid (∀ j, j < k → gN l j < n)) (fun _ i _ => l.length - (intOf i).toNat)
  case atStart => exact ⟨0, by omega, rfl, Ext.auto, fun j hj => absurd hj (by omega)⟩
  case round =>
    obtain ⟨k, hk, rfl, hx0, HT⟩ := hrel
    obtain ⟨w1, hw1⟩ : ∃ w1 : World, w1 = wr := ⟨_, rfl⟩
    subst hw1
    have hz := hx0.size
    by_cases hlt : k < l.length
    · obtain ⟨b, off, rfl, hbo, hk0, e0⟩ := at_Int (h.ext hx0) hlt
      have z0 : (0 : Int) ≤ (k : Int) := by omega
      have z1 : (k : Int) < (l.length : Int) := by omega
      have HG := hide (gN_at l k hlt)
      go_wp2_with fail
      refine (underC_any l[k] n gb _ ((hx0.cell hg).trans hc) (by omega)).mono ?_
      rintro e w2 ⟨rfl, rfl⟩
      by_cases ha : n ≤ l[k]
      · have q2 : decide (n ≤ l[k]) = true := decide_eq_true ha
        have HF := hide (show (0 : Int) ≤ (k : Int) ↔ ¬ (∀ j, j < l.length → gN l j < n) from ⟨fun _ q => by have := q k hlt; rw [HG.out] at this; omega, fun _ => by omega⟩)
        clear ha
        go_wp2
        go_ret
        exact ⟨_, rfl, hx0, HF.out⟩
      · have q2 : decide (n ≤ l[k]) = false := decide_eq_false ha
        have HN := hide (show ∀ j, j < k + 1 → gN l j < n from fun j hj => by
          by_cases e : j = k
          · subst e; rw [HG.out]; omega
          · exact HT.out j (by omega))
        clear ha
        go_wp2_with fail
        go_roundw
        case rel => exact ⟨k + 1, by omega, by go_num, hx0, HN.out⟩
        case measure => (simp [intOf]; try omega)
    · obtain rfl : k = l.length := by omega
      have HF := hide (show (0 : Int) ≤ -1 ↔ ¬ (∀ j, j < l.length → gN l j < n) from ⟨fun q => absurd q (by omega), fun q => absurd HT.out q⟩)
      go_wp2
      go_ret
      exact ⟨_, rfl, hx0, HF.out⟩

theorem hasOver_any (m : TrmMono) (n : Int) (v : Value) (gb : Nat) (w : World) (h : Sl w (Old w) v m.atoms) (hc : w.cell? ⟨gb, 0, none⟩ = some (.int .i64 n)) (hg : gb < w.heap.size) :
    Calls Try.prog 83 #[v, .func (.func 84) #[] #[.pointer (some ⟨gb, 0, none⟩)]] w fun e w' => e = .returned (.bool (!monoUnderB n m)) ∧ Ext w w' := by
  go_enter Try.func83, Try.ntmps83
  go_wp2_with fail
  refine (indexUnder_any m.atoms n v gb _ h hc hg).mono ?_
  rintro e w1 ⟨r, rfl, hx, hr⟩
  have HR := hide hr
  clear hr
  have hu : monoUnderB n m = true ↔ ∀ j, j < m.atoms.length → gN m.atoms j < n := by
    unfold monoUnderB
    rw [allB_iff]
    simp
  have HU := hide hu
  clear hu
  by_cases h0 : 0 ≤ r
  · have q : decide (0 ≤ r) = true := decide_eq_true h0
    have HV := hide (show monoUnderB n m = false by rw [← Bool.not_eq_true, HU.out]; exact HR.out.1 h0)
    go_wp2
    go_ret
    exact ⟨by rw [HV.out]; rfl, hx⟩
  · have q : decide (0 ≤ r) = false := decide_eq_false h0
    have HV := hide (show monoUnderB n m = true by rw [HU.out]; exact Classical.byContradiction fun hn => h0 (HR.out.2 hn))
    go_wp2
    go_ret
    exact ⟨by rw [HV.out]; rfl, hx⟩

set_option maxHeartbeats 4000000 in
theorem negC_any (m : TrmMono) (vm1 : Value) (w : World) (hm1 : Sl w (Old w) vm1 m.atoms)  :
    Calls Try.prog 75 #[.agg #[.int .i64 m.coef, vm1]] w fun e w' => e = .returned (.bool (monoNegB m)) ∧ Ext w w' := by
  obtain ⟨Am1, cm1, rfl, hlm1, hmm1⟩ := hm1.form
  unfold maxLen at hmm1
  by_cases h0 : 0 < m.atoms.length
  rotate_left
  · have HV := hide (show monoNegB m = false by unfold monoNegB; rw [decide_eq_false h0]; rfl)
    have q1 : decide ((0 : Int) < (m.atoms.length : Int)) = false := decide_eq_false (by omega)
    have q2 : decide (0 < m.atoms.length) = false := decide_eq_false h0
    go_enter Try.func75, Try.ntmps75
    go_upto_region 1 with fail
    have he0 : Ext w (w.alloc (Obj.cells #[.int .i64 m.coef, (.slice Am1 m.atoms.length cm1)] 79)) := (Ext.auto)
    have hs0 : w.heap.size + 1 ≤ ((w.alloc (Obj.cells #[.int .i64 m.coef, (.slice Am1 m.atoms.length cm1)] 79))).heap.size := by simp
    have hq0 := hide (show ((w.alloc (Obj.cells #[.int .i64 m.coef, (.slice Am1 m.atoms.length cm1)] 79))).heap.size = w.heap.size + 1 by simp)
    have hBm_0 : Bx (w.alloc (Obj.cells #[.int .i64 m.coef, (.slice Am1 m.atoms.length cm1)] 79)) (w.heap.size) [.int .i64 m.coef, (.slice Am1 m.atoms.length cm1)] := (by have := (Bx.new w #[.int .i64 m.coef, (.slice Am1 m.atoms.length cm1)] 79); simpa using this)
    have hFm_0 : ∀ oo, ((w.alloc (Obj.cells #[.int .i64 m.coef, (.slice Am1 m.atoms.length cm1)] 79))).frozen? ⟨w.heap.size, oo, none⟩ = false := fun oo => by simp
    generalize (w.alloc (Obj.cells #[.int .i64 m.coef, (.slice Am1 m.atoms.length cm1)] 79)) = w0 at *
    have ym : w.heap.size < w0.heap.size := by omega
    have xm0 := hBm_0 0 _ rfl
    have xm1 := hBm_0 1 _ rfl
    go_wp2
    go_ret
    exact ⟨by rw [HV.out]; rfl, Ext.hold he0⟩
  have q1 : decide ((0 : Int) < (m.atoms.length : Int)) = true := decide_eq_true (by omega)
  have q2 : decide (0 < m.atoms.length) = true := decide_eq_true h0
  obtain ⟨b, off, rfl, hbo, hk0, e0⟩ := at_Int hm1 h0
  simp only [Nat.add_zero] at e0
  have hbo0 : b < w.heap.size := hbo
  have z1 : (0 : Int) < (m.atoms.length : Int) := by omega
  have HG := hide (gN_at m.atoms 0 h0)
  cases qn : decide (m.atoms[0] < 0)
  · 
    have HV := hide (show monoNegB m = false by unfold monoNegB; rw [HG.out, q2, qn]; rfl)
    go_enter Try.func75, Try.ntmps75
    go_upto_region 1 with fail
    have he0 : Ext w (w.alloc (Obj.cells #[.int .i64 m.coef, .slice (some ⟨b, off, none⟩) m.atoms.length cm1] 79)) := (Ext.auto)
    have hs0 : w.heap.size + 1 ≤ ((w.alloc (Obj.cells #[.int .i64 m.coef, .slice (some ⟨b, off, none⟩) m.atoms.length cm1] 79))).heap.size := by simp
    have hq0 := hide (show ((w.alloc (Obj.cells #[.int .i64 m.coef, .slice (some ⟨b, off, none⟩) m.atoms.length cm1] 79))).heap.size = w.heap.size + 1 by simp)
    have hBm_0 : Bx (w.alloc (Obj.cells #[.int .i64 m.coef, .slice (some ⟨b, off, none⟩) m.atoms.length cm1] 79)) (w.heap.size) [.int .i64 m.coef, .slice (some ⟨b, off, none⟩) m.atoms.length cm1] := (by have := (Bx.new w #[.int .i64 m.coef, .slice (some ⟨b, off, none⟩) m.atoms.length cm1] 79); simpa using this)
    have hFm_0 : ∀ oo, ((w.alloc (Obj.cells #[.int .i64 m.coef, .slice (some ⟨b, off, none⟩) m.atoms.length cm1] 79))).frozen? ⟨w.heap.size, oo, none⟩ = false := fun oo => by simp
    generalize (w.alloc (Obj.cells #[.int .i64 m.coef, .slice (some ⟨b, off, none⟩) m.atoms.length cm1] 79)) = w0 at *
    have ym : w.heap.size < w0.heap.size := by omega
    have xm0 := hBm_0 0 _ rfl
    have xm1 := hBm_0 1 _ rfl
    have hbo1 : b < w0.heap.size := by omega
    have g0 := (he0.cell hbo0).trans e0
    go_wp2
    go_ret
    exact ⟨by rw [HV.out]; rfl, Ext.hold he0⟩
  · 
    have HV := hide (show monoNegB m = true by unfold monoNegB; rw [HG.out, q2, qn]; rfl)
    go_enter Try.func75, Try.ntmps75
    go_upto_region 1 with fail
    have he0 : Ext w (w.alloc (Obj.cells #[.int .i64 m.coef, .slice (some ⟨b, off, none⟩) m.atoms.length cm1] 79)) := (Ext.auto)
    have hs0 : w.heap.size + 1 ≤ ((w.alloc (Obj.cells #[.int .i64 m.coef, .slice (some ⟨b, off, none⟩) m.atoms.length cm1] 79))).heap.size := by simp
    have hq0 := hide (show ((w.alloc (Obj.cells #[.int .i64 m.coef, .slice (some ⟨b, off, none⟩) m.atoms.length cm1] 79))).heap.size = w.heap.size + 1 by simp)
    have hBm_0 : Bx (w.alloc (Obj.cells #[.int .i64 m.coef, .slice (some ⟨b, off, none⟩) m.atoms.length cm1] 79)) (w.heap.size) [.int .i64 m.coef, .slice (some ⟨b, off, none⟩) m.atoms.length cm1] := (by have := (Bx.new w #[.int .i64 m.coef, .slice (some ⟨b, off, none⟩) m.atoms.length cm1] 79); simpa using this)
    have hFm_0 : ∀ oo, ((w.alloc (Obj.cells #[.int .i64 m.coef, .slice (some ⟨b, off, none⟩) m.atoms.length cm1] 79))).frozen? ⟨w.heap.size, oo, none⟩ = false := fun oo => by simp
    generalize (w.alloc (Obj.cells #[.int .i64 m.coef, .slice (some ⟨b, off, none⟩) m.atoms.length cm1] 79)) = w0 at *
    have ym : w.heap.size < w0.heap.size := by omega
    have xm0 := hBm_0 0 _ rfl
    have xm1 := hBm_0 1 _ rfl
    have hbo1 : b < w0.heap.size := by omega
    have g0 := (he0.cell hbo0).trans e0
    go_wp2
    go_ret
    exact ⟨by rw [HV.out]; rfl, Ext.hold he0⟩

set_option maxHeartbeats 4000000 in
theorem indexNeg_any (l : List TrmMono) (v : Value) (w : World) (h : Sl w (Old w) v l) :
    Calls Try.prog 92 #[v, .func (.func 75) #[] #[]] w fun e w' => ∃ r : Int, e = .returned (.int .i64 r) ∧ Ext w w' ∧ (0 ≤ r ↔ ¬ (∀ j, j < l.length → monoNegB (gM l j) = false)) := by
  obtain ⟨Al, cl, rfl, hll, hlm⟩ := h.form
  unfold maxLen at hlm
  go_enter Try.func92, Try.ntmps92
  go_wp2
  go_loopw [5, 8] (fun _ i wr => ∃ k : Nat, k ≤ l.length ∧ i = .int .i64 k ∧ Ext w wr ∧ Hid (∀ j, j < k → monoNegB (gM l j) = false)) (fun _ i _ => l.length - (intOf i).toNat)
  case atStart => exact ⟨0, by omega, rfl, Ext.auto, fun j hj => absurd hj (by omega)⟩
  case round =>
    obtain ⟨k, hk, rfl, hx0, HT⟩ := hrel
    obtain ⟨w1, hw1⟩ : ∃ w1 : World, w1 = wr := ⟨_, rfl⟩
    subst hw1
    have hz := hx0.size
    by_cases hlt : k < l.length
    · obtain ⟨b, off, va, rfl, hbo, hk0, hva, e0, e1⟩ := at_TrmMono (h.ext hx0) hlt
      obtain ⟨Ava, cva, rfl, -, -⟩ := hva.form
      have z0 : (0 : Int) ≤ (k : Int) := by omega
      have z1 : (k : Int) < (l.length : Int) := by omega
      have HG := hide (gM_at l k hlt)
      go_wp2_with fail
      refine (negC_any l[k] _ _ hva).mono ?_
      rintro e w2 ⟨rfl, hy⟩
      have hx2 := hx0.trans hy
      clear hy
      cases qn : monoNegB l[k]
      · have HN := hide (show ∀ j, j < k + 1 → monoNegB (gM l j) = false from fun j hj => by
          by_cases e : j = k
          · subst e; rw [HG.out]; exact qn
          · exact HT.out j (by omega))
        go_wp2_with fail
        go_roundw
        case rel => exact ⟨k + 1, by omega, by go_num, hx2, HN.out⟩
        case measure => (simp [intOf]; try omega)
      · have HF := hide (show (0 : Int) ≤ (k : Int) ↔ ¬ (∀ j, j < l.length → monoNegB (gM l j) = false) from ⟨fun _ q => (by have := q k hlt; rw [HG.out, qn] at this; cases this), fun _ => (by omega)⟩)
        go_wp2
        go_ret
        exact ⟨_, rfl, hx2, HF.out⟩
    · obtain rfl : k = l.length := by omega
      have HF := hide (show (0 : Int) ≤ -1 ↔ ¬ (∀ j, j < l.length → monoNegB (gM l j) = false) from ⟨fun q => absurd q (by omega), fun q => absurd HT.out q⟩)
      go_wp2
      go_ret
      exact ⟨_, rfl, hx0, HF.out⟩

theorem hasNeg_any (p : TrmPoly) (v : Value) (w : World) (h : Sl w (Old w) v p.monos) :
    Calls Try.prog 74 #[v, .func (.func 75) #[] #[]] w fun e w' => e = .returned (.bool (!polNoNegB p)) ∧ Ext w w' := by
  go_enter Try.func74, Try.ntmps74
  go_wp2_with fail
  refine (indexNeg_any p.monos v _ h).mono ?_
  rintro e w1 ⟨r, rfl, hx, hr⟩
  have HR := hide hr
  clear hr
  have hu : polNoNegB p = true ↔ ∀ j, j < p.monos.length → monoNegB (gM p.monos j) = false := by
    unfold polNoNegB
    rw [allB_iff]
    simp
  have HU := hide hu
  clear hu
  by_cases h0 : 0 ≤ r
  · have q : decide (0 ≤ r) = true := decide_eq_true h0
    have HV := hide (show polNoNegB p = false by rw [← Bool.not_eq_true, HU.out]; exact HR.out.1 h0)
    go_wp2
    go_ret
    exact ⟨by rw [HV.out]; rfl, hx⟩
  · have q : decide (0 ≤ r) = false := decide_eq_false h0
    have HV := hide (show polNoNegB p = true by rw [HU.out]; exact Classical.byContradiction fun hn => h0 (HR.out.2 hn))
    go_wp2
    go_ret
    exact ⟨by rw [HV.out]; rfl, hx⟩

end Go.Proofs.Ytmbclopkopfngaa
