/-
  Copies of lists of sums: the reference and the program.
-/
import Derived.Test.YtdmbgljkogpmdaaPolC
import Derived.Deep.DeepCutAuto
namespace Go.Proofs.Ytdmbgljkogpmdaa
open Go.RowKit

set_option linter.unusedVariables false
set_option linter.unusedSimpArgs false
set_option maxRecDepth 100000

set_option maxHeartbeats 4000000 in
theorem l8Polys_any (l : List TrmPoly) (v : Value) (w : World) (h : Sl w (Old w) v l) (hn : Bulk.blk l ≤ 4194304) :
    Calls Try.prog 52 #[v] w fun e w' => ∃ r F, e = .returned r ∧ OwnSl w' r l F ∧ Fr w w' F ∧ Ext w w' := by
  obtain ⟨A, c, rfl, hl, hm⟩ := h.form
  unfold maxLen at hm
  have hbl := blk_len l
  obtain ⟨i0, hi, hz0, hz1, hz2⟩ := info_parts infTrmPoly
  have HI := hide hi
  have HZ0 := hide hz0
  have HZ1 := hide hz1
  have HZ2 := hide hz2
  clear hi hz0 hz1 hz2
  go_enter Try.func52, Try.ntmps52
  go_wp2
  go_loopw [3, 4] (fun v i wr => ∃ (k : Nat) (Fs : List (List Nat)) (xs : List Value), k ≤ l.length ∧ i = .int .i64 k ∧ App w wr 48 v (l.take k) Fs xs) (fun _ i _ => l.length - (intOf i).toNat)
  case atStart => exact ⟨0, [], [], by omega, rfl, App.emptyAt w 48 _ rfl⟩
  case round =>
    obtain ⟨k, Fs, xs, hk, rfl, hA⟩ := hrel
    by_cases hlt : k < l.length
    · obtain ⟨b, off, v1, rfl, hbo, hk0, hv1, e0⟩ := at_TrmPoly (h.ext hA.ext) hlt
      (try simp only [Nat.mul_one] at e0)
      have z0 : (0 : Int) ≤ (k : Int) := by omega
      have z1 : (k : Int) < (l.length : Int) := by omega
      have hbk := blk_el l k hlt
      have HB := hide (show Bulk.blk l[k] = Bulk.blk l[k].monos from rfl)
      obtain ⟨Av1, cv1, rfl, -, -⟩ := hv1.form
      go_wp2_with fail
      refine (l4Copy_any l[k].monos _ _ hv1 (by have := HB.out; omega)).mono ?_
      rintro e w1 ⟨r1, F1, rfl, ho1, hf, hx⟩
      have hx1 : Ext wr w1 := hx
      have hf1 : Fr wr w1 F1 := hf
      clear hf hx
      obtain ⟨B1, d1, rfl, -, -⟩ := ho1.sl.form
      go_wp2_with (at_builtin; refine wpList_append_push (w0 := w) (wr := wr) rfl _ _ 25 rfl i0 _ 24 Try.underlying25 HI.out HZ0.out HZ1.out HZ2.out rfl (by decide) hA rfl l[k] _ _ (F1) _ rfl hx1 ⟨_, rfl, hk0, ho1⟩ hf1 (by repeat (first | (exact fun _ h => absurd h (List.not_mem_nil)) | (refine List.forall_mem_cons.2 ⟨rfl, ?_⟩))) (by unfold maxLen; first | omega | (simp [List.length_take]; omega)) (by first | omega | (simp [List.length_take]; omega)) ?_; intro v' w9 xs' hA9 hg9; clear hA)
      have HT := hide (List.take_succ_eq_append_getElem hlt)
      go_roundw
      case rel => exact ⟨k + 1, _, _, by omega, by go_num, by rw [HT.out]; exact hA9⟩
      case measure => simp [intOf]; omega
    · obtain rfl : k = l.length := by omega
      go_wp2
      go_ret
      rw [List.take_length] at hA
      obtain ⟨F, ho, hf⟩ := hA.done
      exact ⟨_, F, rfl, ho, hf, hA.ext⟩

set_option maxHeartbeats 2000000 in
theorem clonePolys_app (l : List TrmPoly) (v : Value) (w : World) (h : Sl w (Old w) v l) (hn : Bulk.blk l ≤ 4194304) :
    Calls Try.prog 93 #[v] w fun e w' => ∃ r Fs xs, e = .returned r ∧ App w w' 48 r l Fs xs := by
  obtain ⟨A, c, rfl, hl, hm⟩ := h.form
  unfold maxLen at hm
  have hbl := blk_len l
  obtain ⟨i0, hi, hz0, hz1, hz2⟩ := info_parts infTrmPoly
  have HI := hide hi
  have HZ0 := hide hz0
  have HZ1 := hide hz1
  have HZ2 := hide hz2
  clear hi hz0 hz1 hz2
  go_enter Try.func93, Try.ntmps93
  go_wp2
  go_loopw [3, 8] (fun v i wr => ∃ (k : Nat) (Fs : List (List Nat)) (xs : List Value), k ≤ l.length ∧ i = .int .i64 k ∧ App w wr 48 v (l.take k) Fs xs) (fun _ i _ => l.length - (intOf i).toNat)
  case atStart => exact ⟨0, [], [], by omega, rfl, App.nil w 48⟩
  case round =>
    obtain ⟨k, Fs, xs, hk, rfl, hA⟩ := hrel
    by_cases hlt : k < l.length
    · obtain ⟨b, off, v1, rfl, hbo, hk0, hv1, e0⟩ := at_TrmPoly (h.ext hA.ext) hlt
      have z0 : (0 : Int) ≤ (k : Int) := by omega
      have z1 : (k : Int) < (l.length : Int) := by omega
      have hbk := blk_el l k hlt
      have HB := hide (show Bulk.blk l[k] = Bulk.blk l[k].monos from rfl)
      obtain ⟨Av1, cv1, rfl, -, -⟩ := hv1.form
      go_wp2_with fail
      refine (clonePol_any l[k] _ _ (hv1.ext (Ext.auto)) (by have := HB.out; omega)).mono ?_
      rintro e w1 ⟨r1, F1, rfl, ho1, hf, hx⟩
      have hx1 : Ext wr w1 := Ext.trans (Ext.auto) hx
      have hf1 : Fr wr w1 (F1) := hf.mk1 (by simp) (Nat.le_refl _)
      clear hf hx
      obtain ⟨B1, d1, rfl, -, -⟩ := ho1.sl.form
      go_wp2_with (at_builtin; refine wpList_append_push (w0 := w) (wr := wr) rfl _ _ 25 rfl i0 _ 24 Try.underlying25 HI.out HZ0.out HZ1.out HZ2.out rfl (by decide) hA rfl l[k] _ _ (F1) _ rfl hx1 ⟨_, rfl, hk0, ho1⟩ hf1 (by repeat (first | (exact fun _ h => absurd h (List.not_mem_nil)) | (refine List.forall_mem_cons.2 ⟨rfl, ?_⟩))) (by unfold maxLen; first | omega | (simp [List.length_take]; omega)) (by first | omega | (simp [List.length_take]; omega)) ?_; intro v' w9 xs' hA9 hg9; clear hA)
      have HT := hide (List.take_succ_eq_append_getElem hlt)
      go_roundw
      case rel => exact ⟨k + 1, _, _, by omega, by go_num, by rw [HT.out]; exact hA9⟩
      case measure => simp [intOf]; omega
    · obtain rfl : k = l.length := by omega
      go_wp2
      go_ret
      rw [List.take_length] at hA
      exact ⟨_, _, _, rfl, hA⟩

theorem clonePolys_any (l : List TrmPoly) (v : Value) (w : World) (h : Sl w (Old w) v l) (hn : Bulk.blk l ≤ 4194304) :
    Calls Try.prog 93 #[v] w fun e w' => ∃ r F, e = .returned r ∧ OwnSl w' r l F ∧ Fr w w' F ∧ Ext w w' :=
  (clonePolys_app l v w h hn).mono fun e w' ⟨r, Fs, xs, he, hA⟩ => by
    obtain ⟨F, ho, hf⟩ := hA.done
    exact ⟨r, F, he, ho, hf, hA.ext⟩

end Go.Proofs.Ytdmbgljkogpmdaa
