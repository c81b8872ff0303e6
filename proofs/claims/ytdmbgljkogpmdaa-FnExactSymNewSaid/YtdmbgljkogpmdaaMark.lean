/-
  The laws write over what they own (mark..) and look whether it is still there (held..): slices of plain elements.
-/
import Derived.Test.YtdmbgljkogpmdaaRows
import Derived.Test.YtdmbgljkogpmdaaMk
namespace Go.Proofs.Ytdmbgljkogpmdaa
open Go.RowKit

set_option linter.unusedVariables false
set_option linter.unusedSimpArgs false
set_option maxRecDepth 100000

set_option maxHeartbeats 2000000 in
theorem mark_ListInt (l : List Int) (v : Value) (F : List Nat) (k : Int) (w : World) (h : OwnSl w v l F) (hnd : F.Nodup) (hlt : ∀ x, x ∈ F → x < w.heap.size) (h0 : 0 ≤ k) (hm : k + ((Mk.ct l : Nat) : Int) ≤ 1099511627776) :
    Calls Try.prog 72 #[v, .int .i64 k] w fun e w' => e = .returned (.int .i64 (k + ((Mk.ct l : Nat) : Int))) ∧ OwnSl w' v (Mk.put l k) F ∧ Chg F w w' := by
  obtain ⟨A, c, rfl, hl, hmx⟩ := h.sl.form
  unfold maxLen at hmx
  go_enter Try.func72, Try.ntmps72
  go_wp2
  go_loopw [1, 5] (fun r i wr => ∃ j : Nat, j ≤ l.length ∧ i = .int .i64 j ∧ r = .int .i64 (k + ((ctTo l j : Nat) : Int)) ∧ OwnSl wr (.slice A l.length c) (mkTo l k j) F ∧ Chg F w wr) (fun _ i _ => l.length - (intOf i).toNat)
  case atStart => exact ⟨0, by omega, rfl, by rw [ctTo_zero]; exact congrArg (Value.int .i64) (by omega), by rw [mkTo_zero]; exact h, Chg.refl _ _⟩
  case round =>
    obtain ⟨j, hj, rfl, rfl, ho, hch⟩ := hrel
    by_cases hlt' : j < l.length
    · have hcs := ctTo_succ l j hlt'
      have hcl := ctTo_le l (j + 1) (by omega)
      have HM := hide (mkTo_succ l k j hlt')
      obtain ⟨b, off, c', Fi, us, e, hown, hc, hnd', hsub, hfz, hclose⟩ := ho.focus hnd (i := j) (by rw [mkTo_length]; exact hlt')
      simp only [mkTo_getElem l k j hlt'] at hown
      injection e with ea eb ec
      subst ea
      have HC := hide hclose
      clear hclose ec eb
      obtain ⟨⟨rfl, hk0⟩, rfl⟩ := hown
      have e0 : wr.cell? ⟨b, off + j, none⟩ = some (.int .i64 (l[j])) := by simpa [Rep.sz] using hc 0 _ rfl
      have hbF : b ∈ F := hsub b List.mem_cons_self
      have hbl : b < wr.heap.size := Nat.lt_of_lt_of_le (hlt b hbF) hch.size
      have z0 : (0 : Int) ≤ (j : Int) := by omega
      have z1 : (j : Int) < (l.length : Int) := by omega
      have hct : Mk.ct l[j] = 1 := rfl
      clear hc ho
      go_wp2
      go_roundw
      case rel =>
        refine ⟨j + 1, by omega, by go_num, congrArg (Value.int .i64) (by omega), ?_, ?_⟩
        · rw [HM.out]
          have hp := (Put.one (v := .int .i64 (k + ((ctTo l j : Nat) : Int))) e0)
          refine HC.out _ (Mk.put l[j] (k + ((ctTo l j : Nat) : Int))) [.int .i64 (k + ((ctTo l j : Nat) : Int))] ⟨⟨rfl, by show Fits (k + ((ctTo l j : Nat) : Int)); unfold Fits; omega⟩, rfl⟩ (fun m u hu => ?_) (fun o ho => ?_) (fun o => (hp.frozen _).trans (hfz o)) (fun x hx hn => hp.block x (by rintro rfl; exact hn List.mem_cons_self))
          · cases m with
            | zero => have := hp.read_ hu; simpa [Rep.sz] using this
            | succ m => simp at hu
          · exact hp.other_ (by simpa [Rep.sz] using ho)
        · exact hch.trans ((Put.one (v := .int .i64 (k + ((ctTo l j : Nat) : Int))) e0).chg.mono (fun x hx => by simp at hx; subst hx; exact hbF))
      case measure => simp [intOf]; omega
    · obtain rfl : j = l.length := by omega
      go_wp2
      go_ret
      exact ⟨rfl, ho, hch⟩

set_option maxHeartbeats 2000000 in
theorem held_ListInt (l : List Int) (v : Value) (k : Int) (w : World) (h : Sl w (Old w) v (Mk.put l k)) (h0 : 0 ≤ k) (hm : k + ((Mk.ct l : Nat) : Int) ≤ 1099511627776) :
    Calls Try.prog 73 #[v, .int .i64 k] w fun e w' => e = .returned (.int .i64 (k + ((Mk.ct l : Nat) : Int))) ∧ Ext w w' := by
  obtain ⟨A, c, e, hl, hmx⟩ := h.form
  rw [mk_length] at e hl
  subst e
  unfold maxLen at hmx
  go_enter Try.func73, Try.ntmps73
  go_wp2
  go_loopw [1, 5] (fun r i wr => ∃ j : Nat, j ≤ l.length ∧ i = .int .i64 j ∧ r = .int .i64 (k + ((ctTo l j : Nat) : Int)) ∧ Ext w wr) (fun _ i _ => l.length - (intOf i).toNat)
  case atStart => exact ⟨0, by omega, rfl, by rw [ctTo_zero]; exact congrArg (Value.int .i64) (by omega), Ext.refl _⟩
  case round =>
    obtain ⟨j, hj, rfl, rfl, he⟩ := hrel
    by_cases hlt' : j < l.length
    · have hcs := ctTo_succ l j hlt'
      have hcl := ctTo_le l (j + 1) (by omega)
      have hmj : (Mk.put l k)[j]'(by rw [mk_length]; exact hlt') = Mk.put l[j] (k + ((ctTo l j : Nat) : Int)) := by
        have := mk_get l k j hlt'
        rw [List.getElem?_eq_getElem (by rw [mk_length]; exact hlt')] at this
        injection this
      obtain ⟨b, off, rfl, hbo, hk0, e0⟩ := at_Int (h.ext he) (i := j) (by rw [mk_length]; exact hlt')
      rw [hmj] at e0
      replace e0 : wr.cell? ⟨b, off + j, none⟩ = some (.int .i64 (k + ((ctTo l j : Nat) : Int))) := e0
      have z0 : (0 : Int) ≤ (j : Int) := by omega
      have z1 : (j : Int) < (l.length : Int) := by omega
      have hct : Mk.ct l[j] = 1 := rfl
      clear hmj hk0
      go_wp2
      go_roundw
      case rel => exact ⟨j + 1, by omega, by go_num, congrArg (Value.int .i64) (by omega), he⟩
      case measure => simp [intOf]; omega
    · obtain rfl : j = l.length := by omega
      go_wp2
      go_ret
      exact ⟨rfl, he⟩

end Go.Proofs.Ytdmbgljkogpmdaa
