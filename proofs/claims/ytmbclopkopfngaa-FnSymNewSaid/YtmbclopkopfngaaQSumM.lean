/-
  SumM
-/
import Derived.Test.YtmbclopkopfngaaQSumP
import Derived.Test.YtmbclopkopfngaaQNewP
import Derived.Deep.DeepCutAuto
namespace Go.Proofs.Ytmbclopkopfngaa
open Go.RowKit

set_option linter.unusedVariables false
set_option linter.unusedSimpArgs false
set_option maxRecDepth 100000

theorem mergeL_take {x y : Int} (h : x ≤ y) (a r : List Int) : mergeL (x :: a) (y :: r) = x :: mergeL a (y :: r) := by
  rw [mergeL, mergeL, List.takeWhile_cons, List.dropWhile_cons, if_pos (by simpa using h), if_pos (by simpa using h)]; rfl
theorem mergeL_stop {y : Int} : ∀ (a r : List Int), (∀ x, a[0]? = some x → y < x) → mergeL a (y :: r) = y :: mergeL a r
  | [], r, _ => rfl
  | x :: a, r, h => by
    have h1 := h x rfl
    rw [mergeL, List.takeWhile_cons, List.dropWhile_cons, if_neg (by simp; omega), if_neg (by simp; omega)]; rfl
set_option maxHeartbeats 16000000 in
theorem l4Merge_any (a : List Int) (b : List Int) (va vb : Value) (w : World) (ha : Sl w (Old w) va a) (hb : Sl w (Old w) vb b) (hla4 : a.length ≤ 4000) (hlb4 : b.length ≤ 4000) :
    Calls Try.prog 79 #[va, vb] w fun e w' => (∃ r, e = .returned r ∧ Sl w' (Old w') r (mergeL a b)) ∧ Ext w w' := by
  obtain ⟨Aa, ca, rfl, hla, hma⟩ := ha.form
  obtain ⟨Ab, cb, rfl, hlb, hmb⟩ := hb.form
  unfold maxLen at hma hmb
  obtain ⟨i0a, hi_, hz0, hz1, hz2⟩ := info_parts infInt
  have HIa := hide hi_
  have HZ0a := hide hz0
  have HZ1a := hide hz1
  have HZ2a := hide hz2
  clear hi_ hz0 hz1 hz2
  go_enter Try.func79, Try.ntmps79
  go_upto_region 2 with fail
  have hA0_ : App w (w.alloc (.cells #[] 3)) 3 (.slice (some ⟨w.heap.size, 0, none⟩) 0 0) ([] : List Int) [] [] := App.emptyAt w 3 _ rfl
  generalize w.alloc (.cells #[] 3) = w1 at *
  go_wp2
  go_loopw [5, 6, 7] (fun v5 i6 i7 wz => ∃ (k I : Nat) (v : Value) (L : List Int) (Fs : List (List Nat)) (xs : List Value), v5 = v ∧ k ≤ b.length ∧ I ≤ a.length ∧ i6 = .int .i64 I ∧ i7 = .int .i64 k ∧ App w wz 3 v L Fs xs ∧ Hid (mergeL a b = L ++ mergeL (a.drop I) (b.drop k)) ∧ L.length = I + k) (fun _ _ i _ => b.length - (intOf i).toNat)
  case atStart => exact ⟨0, 0, _, [], [], [], rfl, by omega, by omega, rfl, rfl, hA0_, hide rfl, rfl⟩
  case round =>
    clear hA0_
    obtain ⟨w2, hwr⟩ : ∃ w2 : World, w2 = wr := ⟨_, rfl⟩
    subst hwr
    obtain ⟨k, I, v, L, Fs, xs, rfl, hk, hI, rfl, rfl, hA, HP, hL⟩ := hrel
    obtain ⟨F7, hO7, -⟩ := hA.done
    obtain ⟨A7, c7, rfl, -, -⟩ := hO7.sl.form
    clear hO7 F7
    by_cases hlt : k < b.length
    · 
      obtain ⟨bb, off, rfl, hbo, hk0, e0⟩ := at_Int hb hlt
      have z0 : (0 : Int) ≤ (k : Int) := by omega
      have z1 : (k : Int) < (b.length : Int) := by omega
      have HD := hide (show b.drop k = b[k] :: b.drop (k + 1) from List.drop_eq_getElem_cons hlt)
      go_wp2
      go_loopw [5, 6] (fun v5 i6 wz => ∃ (I : Nat) (v : Value) (L : List Int) (Fs : List (List Nat)) (xs : List Value), v5 = v ∧ I ≤ a.length ∧ i6 = .int .i64 I ∧ App w wz 3 v L Fs xs ∧ Hid (mergeL a b = L ++ mergeL (a.drop I) (b[k] :: b.drop (k + 1))) ∧ L.length = I + k) (fun _ i _ => a.length - (intOf i).toNat)
      case atStart => exact ⟨I, _, L, Fs, xs, rfl, hI, rfl, hA, hide (by rw [HP.out, HD.out]), hL⟩
      case round =>
        clear hA HP hL hI
        obtain ⟨w3, hwr⟩ : ∃ w3 : World, w3 = wr := ⟨_, rfl⟩
        subst hwr
        obtain ⟨J, v, L, Fs, xs, rfl, hI, rfl, hA, HP, hL⟩ := hrel
        obtain ⟨F7, hO7, -⟩ := hA.done
        obtain ⟨A7, c7, rfl, -, -⟩ := hO7.sl.form
        clear hO7 F7
        have hx := hA.ext
        have hs3 := hx.size
        have hbo3 : bb < w3.heap.size := Nat.lt_of_lt_of_le hbo hx.size
        have g0 := (hx.cell hbo).trans e0
        by_cases hlI : J < a.length
        · 
          obtain ⟨ba, offa, rfl, hba, hka, f0⟩ := at_Int ha hlI
          have hba3 : ba < w3.heap.size := Nat.lt_of_lt_of_le hba hx.size
          replace f0 := (hx.cell hba).trans f0
          have y0 : (0 : Int) ≤ (J : Int) := by omega
          have y1 : (J : Int) < (a.length : Int) := by omega
          have HE := hide (show a.drop J = a[J] :: a.drop (J + 1) from List.drop_eq_getElem_cons hlI)
          have qI : decide (J < a.length) = true := decide_eq_true hlI
          by_cases hc : a[J] ≤ b[k]
          · 
            have q2 : decide (a[J] ≤ b[k]) = true := decide_eq_true hc
            have HN := hide (show mergeL a b = (L ++ [a[J]]) ++ mergeL (a.drop (J + 1)) (b[k] :: b.drop (k + 1)) by rw [HP.out, HE.out, mergeL_take hc, List.append_assoc]; rfl)
            clear hc
            go_upto_region 6 with fail
            have hS : ∀ w', Ext w3 w' → ∀ bb oo, bb < w3.heap.size → w'.cell? ⟨bb, oo, none⟩ = w3.cell? ⟨bb, oo, none⟩ := fun w' hx bb oo hb => hx.cell hb
            refine wp_region_plan (fun w' => Ext w3 w') 13 (.float 0 (.float 1 (.float 2 (.float 3 (.float 4 (.float 5 (.float 6 (.float 7 (.float 8 (.float 9 (.float 10 (.float 11 (.float 12 (.tail 13)))))))))))))) (by kernel_rfl) (by kernel_rfl) (Ext.refl _).drew ?_
            iterate 5 ((refine Plan.float_step (v := ?_) rfl (by rfl) (fun _ _ _ h => h) (fun w' hSw => ?_) ?_; rotate_left; · (go_simp; try with_reducible rfl)); (try simp only [Act.put, List.setIfInBounds_toArray, List.set_cons_zero, List.set_cons_succ]))
            iterate 8 ((first | (refine planNo rfl (by rfl) (fun _ _ _ h => h) ?_) | (refine Plan.float_step (v := ?_) rfl (by rfl) (fun _ _ _ h => h) (fun w' hSw => ?_) ?_; rotate_left; · (go_simp; try with_reducible rfl))); (try simp only [Act.put, List.setIfInBounds_toArray, List.set_cons_zero, List.set_cons_succ]))
            refine Plan.tail_step ?_
            simp only [List.drop_succ_cons, List.drop_zero]
            clear hS
            have hd4 : Ext w3 w3.drew := (Ext.refl _).drew
            replace hA := hA.call hd4
            replace g0 := (hd4.cell hbo3).trans g0
            replace hbo3 : bb < w3.drew.heap.size := hbo3
            replace f0 := (hd4.cell hba3).trans f0
            replace hba3 : ba < w3.drew.heap.size := hba3
            clear hd4 hx hs3
            generalize w3.drew = w4 at *
            go_upto_region 8 with (
                at_builtin; refine wpList_append_push2 (α := Int) (w0 := w) (wr := w4) rfl _ _ 39 rfl i0a _ 8 Try.underlying39 HIa.out HZ0a.out HZ1a.out HZ2a.out rfl (by decide) hA rfl a[J] #[.int .i64 a[J]] 3 [] _ rfl Ext.auto ⟨⟨rfl, hka⟩, rfl⟩ (Fr.nil _ _) (by repeat (first | (exact fun _ h => absurd h (List.not_mem_nil)) | (refine List.forall_mem_cons.2 ⟨rfl, ?_⟩))) (by unfold maxLen; omega) (by omega) ?_
                intro v' wq9 xs' hA9 hg9 hb9)
            go_wp2
            go_roundw
            case rel => exact ⟨J + 1, _, _, _, _, rfl, by omega, by go_num, hA9, HN, by simp; omega⟩
            case measure => simp [intOf]; omega
          · 
            have q2 : decide (a[J] ≤ b[k]) = false := decide_eq_false hc
            go_upto_region 6 with fail
            have hS : ∀ w', Ext w3 w' → ∀ bb oo, bb < w3.heap.size → w'.cell? ⟨bb, oo, none⟩ = w3.cell? ⟨bb, oo, none⟩ := fun w' hx bb oo hb => hx.cell hb
            refine wp_region_plan (fun w' => Ext w3 w') 13 (.float 0 (.float 1 (.float 2 (.float 3 (.float 4 (.float 5 (.float 6 (.float 7 (.float 8 (.float 9 (.float 10 (.float 11 (.float 12 (.tail 13)))))))))))))) (by kernel_rfl) (by kernel_rfl) (Ext.refl _).drew ?_
            iterate 5 ((refine Plan.float_step (v := ?_) rfl (by rfl) (fun _ _ _ h => h) (fun w' hSw => ?_) ?_; rotate_left; · (go_simp; try with_reducible rfl)); (try simp only [Act.put, List.setIfInBounds_toArray, List.set_cons_zero, List.set_cons_succ]))
            iterate 8 ((first | (refine planNo rfl (by rfl) (fun _ _ _ h => h) ?_) | (refine Plan.float_step (v := ?_) rfl (by rfl) (fun _ _ _ h => h) (fun w' hSw => ?_) ?_; rotate_left; · (go_simp; try with_reducible rfl))); (try simp only [Act.put, List.setIfInBounds_toArray, List.set_cons_zero, List.set_cons_succ]))
            refine Plan.tail_step ?_
            simp only [List.drop_succ_cons, List.drop_zero]
            clear hS
            have hd4 : Ext w3 w3.drew := (Ext.refl _).drew
            replace hA := hA.call hd4
            replace g0 := (hd4.cell hbo3).trans g0
            replace hbo3 : bb < w3.drew.heap.size := hbo3
            clear f0 hd4 hx hs3
            generalize w3.drew = w4 at *
            have HN := hide (show mergeL a b = (L ++ [b[k]]) ++ mergeL (a.drop J) (b.drop (k + 1)) by rw [HP.out, mergeL_stop _ _ (fun x hx => by obtain ⟨_, rfl⟩ := List.getElem?_eq_some_iff.1 (show a[J]? = some x by simpa using hx); omega), List.append_assoc]; rfl)
            go_upto_region 5 with (
                at_builtin; refine wpList_append_push2 (α := Int) (w0 := w) (wr := w4) rfl _ _ 39 rfl i0a _ 8 Try.underlying39 HIa.out HZ0a.out HZ1a.out HZ2a.out rfl (by decide) hA rfl b[k] #[.int .i64 b[k]] 3 [] _ rfl Ext.auto ⟨⟨rfl, hk0⟩, rfl⟩ (Fr.nil _ _) (by repeat (first | (exact fun _ h => absurd h (List.not_mem_nil)) | (refine List.forall_mem_cons.2 ⟨rfl, ?_⟩))) (by unfold maxLen; omega) (by omega) ?_
                intro v' wq9 xs' hA9 hg9 hb9)
            go_wp2
            go_roundw
            case rel => exact ⟨k + 1, J, _, _, _, _, rfl, by omega, hI, rfl, by go_num, hA9, HN, by simp; omega⟩
            case measure => simp [intOf]; omega
        · 
          have qI : decide (J < a.length) = false := decide_eq_false hlI
          go_upto_region 6 with fail
          have hS : ∀ w', Ext w3 w' → ∀ bb oo, bb < w3.heap.size → w'.cell? ⟨bb, oo, none⟩ = w3.cell? ⟨bb, oo, none⟩ := fun w' hx bb oo hb => hx.cell hb
          refine wp_region_plan (fun w' => Ext w3 w') 13 (.float 0 (.float 1 (.float 2 (.float 3 (.float 4 (.float 5 (.float 6 (.float 7 (.float 8 (.float 9 (.float 10 (.float 11 (.float 12 (.tail 13)))))))))))))) (by kernel_rfl) (by kernel_rfl) (Ext.refl _).drew ?_
          iterate 5 ((refine Plan.float_step (v := ?_) rfl (by rfl) (fun _ _ _ h => h) (fun w' hSw => ?_) ?_; rotate_left; · (go_simp; try with_reducible rfl)); (try simp only [Act.put, List.setIfInBounds_toArray, List.set_cons_zero, List.set_cons_succ]))
          iterate 8 ((first | (refine planNo rfl (by rfl) (fun _ _ _ h => h) ?_) | (refine Plan.float_step (v := ?_) rfl (by rfl) (fun _ _ _ h => h) (fun w' hSw => ?_) ?_; rotate_left; · (go_simp; try with_reducible rfl))); (try simp only [Act.put, List.setIfInBounds_toArray, List.set_cons_zero, List.set_cons_succ]))
          refine Plan.tail_step ?_
          simp only [List.drop_succ_cons, List.drop_zero]
          clear hS
          have hd4 : Ext w3 w3.drew := (Ext.refl _).drew
          replace hA := hA.call hd4
          replace g0 := (hd4.cell hbo3).trans g0
          replace hbo3 : bb < w3.drew.heap.size := hbo3
          clear hd4 hx hs3
          generalize w3.drew = w4 at *
          have HN := hide (show mergeL a b = (L ++ [b[k]]) ++ mergeL (a.drop J) (b.drop (k + 1)) by rw [HP.out, mergeL_stop _ _ (fun x hx => by rw [List.drop_eq_nil_of_le (by omega)] at hx; simp at hx), List.append_assoc]; rfl)
          go_upto_region 5 with (
              at_builtin; refine wpList_append_push2 (α := Int) (w0 := w) (wr := w4) rfl _ _ 39 rfl i0a _ 8 Try.underlying39 HIa.out HZ0a.out HZ1a.out HZ2a.out rfl (by decide) hA rfl b[k] #[.int .i64 b[k]] 3 [] _ rfl Ext.auto ⟨⟨rfl, hk0⟩, rfl⟩ (Fr.nil _ _) (by repeat (first | (exact fun _ h => absurd h (List.not_mem_nil)) | (refine List.forall_mem_cons.2 ⟨rfl, ?_⟩))) (by unfold maxLen; omega) (by omega) ?_
              intro v' wq9 xs' hA9 hg9 hb9)
          go_wp2
          go_roundw
          case rel => exact ⟨k + 1, J, _, _, _, _, rfl, by omega, hI, rfl, by go_num, hA9, HN, by simp; omega⟩
          case measure => simp [intOf]; omega
    · 
      obtain rfl : k = b.length := by omega
      rw [List.drop_length] at HP
      have HP2 := hide (show mergeL a b = L ++ a.drop I by rw [HP.out]; rfl)
      clear HP
      have z0 : (0 : Int) ≤ (I : Int) := by omega
      have z1 : (I : Int) ≤ (a.length : Int) := by omega
      by_cases h0 : I < a.length
      · 
        obtain ⟨ba, offa, rfl, hba, hka, f0⟩ := at_Int ha h0
        have hne : ¬ I = ca := by omega
        have hne2 : ¬ (I : Int) = (ca : Int) := by omega
        have HSL : Sl w2 (Old w2) (.slice (some ⟨ba, offa + I, none⟩) (a.length - I) (ca - I)) (a.drop I) := by
          have := (ha.ext hA.ext).drop h0
          simpa [Rep.sz] using this
        go_wp2_with (at_builtin; go_must (refine wpList_append_flat (α := Int) (w0 := w) rfl _ _ 39 rfl i0a _ 8 Try.underlying39 HIa.out HZ0a.out HZ1a.out HZ2a.out rfl hA rfl _ (a.drop I) (Old w2) rfl HSL (by unfold maxLen; simp; omega) (by simp; omega) ?_); intro v9 w9 Fs9 xs9 hA9)
        obtain ⟨F9, hO9, hF9⟩ := hA9.done
        go_ret
        exact ⟨⟨_, rfl, by rw [HP2.out]; exact hO9.old hF9⟩, hA9.ext⟩
      · 
        obtain rfl : I = a.length := by omega
        rw [List.drop_length] at HP2
        have HN : ∀ (A3 : Option Addr) (c3 : Nat), (A3 = none → c3 = 0) → c3 ≤ maxLen → Sl w2 (Old w2) (.slice A3 0 c3) ([] : List Int) := fun A3 c3 h1 h2 => ⟨A3, c3, rfl, Nat.zero_le _, h2, h1, fun h => absurd rfl h⟩
        have HA0 : Aa = none → ca = 0 := by
          obtain ⟨A', c', q1, -, -, q2, -⟩ := ha
          injection q1 with q1 _ q3
          subst q1 q3
          exact q2
        by_cases hc : a.length = ca
        · 
          have HC := hide hc
          cases Aa with
          | none =>
            have hc0 := HA0 rfl
            subst hc0
            have hl0 : a.length = 0 := by omega
            go_wp2_with (at_builtin; go_must (refine wpList_append_flat (α := Int) (w0 := w) rfl _ _ 39 rfl i0a _ 8 Try.underlying39 HIa.out HZ0a.out HZ1a.out HZ2a.out rfl hA rfl _ (([] : List Int)) (Old w2) rfl (HN _ _ (fun _ => rfl) (by simp [maxLen])) (by unfold maxLen; simp; omega) (by simp; omega) ?_); intro v9 w9 Fs9 xs9 hA9)
            obtain ⟨F9, hO9, hF9⟩ := hA9.done
            go_ret
            exact ⟨⟨_, rfl, by rw [HP2.out]; exact hO9.old hF9⟩, hA9.ext⟩
          | some ad =>
            go_wp2_with (at_builtin; go_must (refine wpList_append_flat (α := Int) (w0 := w) rfl _ _ 39 rfl i0a _ 8 Try.underlying39 HIa.out HZ0a.out HZ1a.out HZ2a.out rfl hA rfl _ (([] : List Int)) (Old w2) rfl (HN _ _ (by simp) (by simp [maxLen])) (by unfold maxLen; simp; omega) (by simp; omega) ?_); intro v9 w9 Fs9 xs9 hA9)
            obtain ⟨F9, hO9, hF9⟩ := hA9.done
            go_ret
            exact ⟨⟨_, rfl, by rw [HP2.out]; exact hO9.old hF9⟩, hA9.ext⟩
        · 
          cases Aa with
          | none => exact absurd (HA0 rfl) (by omega)
          | some ad =>
            have hne2 : ¬ (a.length : Int) = (ca : Int) := by omega
            go_wp2_with (at_builtin; go_must (refine wpList_append_flat (α := Int) (w0 := w) rfl _ _ 39 rfl i0a _ 8 Try.underlying39 HIa.out HZ0a.out HZ1a.out HZ2a.out rfl hA rfl _ (([] : List Int)) (Old w2) rfl (HN _ _ (by simp) (by unfold maxLen; omega)) (by unfold maxLen; simp; omega) (by simp; omega) ?_); intro v9 w9 Fs9 xs9 hA9)
            obtain ⟨F9, hO9, hF9⟩ := hA9.done
            go_ret
            exact ⟨⟨_, rfl, by rw [HP2.out]; exact hO9.old hF9⟩, hA9.ext⟩

end Go.Proofs.Ytmbclopkopfngaa
