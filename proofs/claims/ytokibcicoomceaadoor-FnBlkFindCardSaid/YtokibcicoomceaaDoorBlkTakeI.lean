/-
  The instructions that words say: the reference, and the program.
-/
import Derived.Test.YtokibcicoomceaaDoorDrawO
import Derived.Test.YtokibcicoomceaaDoorBlkPure
import Derived.Deep.DeepCutAuto
namespace Go.Proofs.YtokibcicoomceaaDoor
open Go.RowKit

set_option linter.unusedVariables false
set_option linter.unusedSimpArgs false
set_option maxRecDepth 100000

theorem take_go {ws : List Int} {l : List InsIns} (h : blkTake ws = l ++ blkTake (ws.drop l.length)) (hlt : l.length < ws.length) (hq : insTakeB ws[l.length] = true) : blkTake ws = (l ++ [insTake ws[l.length]]) ++ blkTake (ws.drop (l ++ [insTake ws[l.length]]).length) := by
  have e : (l ++ [insTake ws[l.length]]).length = l.length + 1 := by simp
  rw [e, List.append_assoc]
  have hd : ws.drop l.length = ws[l.length] :: ws.drop (l.length + 1) := List.drop_eq_getElem_cons hlt
  rw [hd] at h
  rw [h]
  congr 1
  rw [blkTake, if_pos hq]
  rfl
theorem take_stop {ws : List Int} {l : List InsIns} (h : blkTake ws = l ++ blkTake (ws.drop l.length)) (hlt : l.length < ws.length) (hq : insTakeB ws[l.length] = false) : l = blkTake ws := by
  have hd : ws.drop l.length = ws[l.length] :: ws.drop (l.length + 1) := List.drop_eq_getElem_cons hlt
  rw [hd, blkTake, if_neg (by rw [hq]; simp), List.append_nil] at h
  exact h.symm
theorem take_end {ws : List Int} {l : List InsIns} (h : blkTake ws = l ++ blkTake (ws.drop l.length)) (hlt : ws.length ≤ l.length) : l = blkTake ws := by
  rw [List.drop_of_length_le hlt, blkTake, List.append_nil] at h
  exact h.symm
theorem insTake_fields (n : Int) : 0 ≤ (insTake n).op ∧ (insTake n).op ≤ 15 ∧ 0 ≤ (insTake n).d ∧ (insTake n).d < 4 ∧ 0 ≤ (insTake n).a ∧ (insTake n).a < 4 ∧ 0 ≤ (insTake n).k ∧ (insTake n).k < 256 := by
  unfold insTake
  split
  · rename_i h
    have hi : insOkB (insOf n) = true := by unfold insTakeB at h; simp only [Bool.and_eq_true] at h; exact h.2
    have hr := insR hi
    have h1 := hr.o0
    have h2 := hr.o1
    have h3 := hr.d0
    have h4 := hr.d1
    have h5 := hr.a0
    have h6 := hr.a1
    have h7 := hr.k0
    have h8 := hr.k1
    omega
  · unfold insNone
    simp
theorem insTake_in (n : Int) : InsIn (insTake n) := by
  have := insTake_fields n
  unfold InsIn
  omega

set_option maxHeartbeats 16000000 in
theorem specBlkTake_any (ws : List Int) (v : Value) (w : World) (h : Sl w (Old w) v ws) (hn : ws.length ≤ 100000) :
    Calls Tryd.prog 25 #[v] w fun e w' => (∃ v : Value, e = .returned v ∧ Gro 30 w.heap.size w' v (blkTake ws)) ∧ Ext w w' := by
  obtain ⟨i0, hi, hz0, hz1, hz2⟩ := info_parts infInsIns
  have HI := hide hi
  have HZ0 := hide hz0
  have HZ1 := hide hz1
  have HZ2 := hide hz2
  clear hi hz0 hz1 hz2
  obtain ⟨Al, cl, rfl, hll, hml⟩ := h.form
  unfold maxLen at hml
  have hG0 := Gro.empty (α := InsIns) w 30
  have hE0 : Ext w (w.alloc (.cells #[] 30)) := (Ext.refl _).alloc _
  go_enter Tryd.func25, Tryd.ntmps25
  go_wp2
  go_loopw [3, 4, 5, 6] (fun vo vk _ _ wz => ∃ (l : List InsIns) (A : Option Addr) (c : Nat), vo = .slice A l.length c ∧ vk = .int .i64 (l.length : Int) ∧ l.length ≤ ws.length ∧ Hid (blkTake ws = l ++ blkTake (ws.drop l.length)) ∧ Gro 30 w.heap.size wz (.slice A l.length c) l ∧ Ext w wz) (fun _ vk _ _ _ => ws.length - (intOf vk).toNat)
  case atStart => exact ⟨[], _, 0, rfl, rfl, by simp, rfl, hG0, hE0⟩
  case round =>
    obtain ⟨w1, hwr⟩ : ∃ w1 : World, w1 = wr := ⟨_, rfl⟩
    subst hwr
    obtain ⟨l, A, c, rfl, rfl, hle, HB, hG, hE⟩ := hrel
    have hsw := hE.size
    by_cases hlt : l.length < ws.length
    · have HGO := hide (take_go HB.out hlt)
      have HSTOP := hide (take_stop HB.out hlt)
      have hin9 := insTake_in ws[l.length]
      obtain ⟨b, off, rfl, hbo, hk0, e0⟩ := at_Int (h.ext hE) hlt
      have z0 : (0 : Int) ≤ (l.length : Int) := by omega
      have z1 : (l.length : Int) < (ws.length : Int) := by omega
      go_wp2_with fail
      refine (specInsTake_any ws[l.length] _).mono ?_
      rintro e w2 ⟨rfl, hy⟩
      go_upto_region 6 with fail
      have hBx : Bx (w2.alloc (.cells #[.int .i64 (insTake ws[l.length]).op, .int .i64 (insTake ws[l.length]).d, .int .i64 (insTake ws[l.length]).a, .int .i64 (insTake ws[l.length]).k] 30)) w2.heap.size [.int .i64 (insTake ws[l.length]).op, .int .i64 (insTake ws[l.length]).d, .int .i64 (insTake ws[l.length]).a, .int .i64 (insTake ws[l.length]).k] := Bx.new w2 #[.int .i64 (insTake ws[l.length]).op, .int .i64 (insTake ws[l.length]).d, .int .i64 (insTake ws[l.length]).a, .int .i64 (insTake ws[l.length]).k] 30
      have hEx := hE.trans ((hy.trans (show Ext w2 (w2.alloc (.cells #[.int .i64 (insTake ws[l.length]).op, .int .i64 (insTake ws[l.length]).d, .int .i64 (insTake ws[l.length]).a, .int .i64 (insTake ws[l.length]).k] 30)) from Ext.auto)))
      have hG2 := hG.ext ((hy.trans (show Ext w2 (w2.alloc (.cells #[.int .i64 (insTake ws[l.length]).op, .int .i64 (insTake ws[l.length]).d, .int .i64 (insTake ws[l.length]).a, .int .i64 (insTake ws[l.length]).k] 30)) from Ext.auto)))
      have hs1 : w1.heap.size ≤ w2.heap.size := hy.size
      have hs2 : w2.heap.size + 1 ≤ (w2.alloc (.cells #[.int .i64 (insTake ws[l.length]).op, .int .i64 (insTake ws[l.length]).d, .int .i64 (insTake ws[l.length]).a, .int .i64 (insTake ws[l.length]).k] 30)).heap.size := by simp
      clear e0 hG hE hy
      generalize (w2.alloc (.cells #[.int .i64 (insTake ws[l.length]).op, .int .i64 (insTake ws[l.length]).d, .int .i64 (insTake ws[l.length]).a, .int .i64 (insTake ws[l.length]).k] 30)) = w3 at *
      have hE := hEx
      have hG := hG2
      have hGl := hG.lt
      have yx : w2.heap.size < w3.heap.size := by omega
      have xx0 := hBx 0 _ rfl
      have xx1 := hBx 1 _ rfl
      have xx2 := hBx 2 _ rfl
      have xx3 := hBx 3 _ rfl
      generalize hn9 : insTakeB ws[l.length] = ok at *
      generalize insTake ws[l.length] = i at *
      clear hn9
      cases ok
      · have HF := hide (HSTOP.out rfl)
        go_wp2
        go_ret
        refine ⟨⟨_, rfl, ?_⟩, hE⟩
        rw [← HF.out]
        exact hG
      · have hok9 : InsIns.Ok i := hin9.ok
        have HN := hide (HGO.out rfl)
        obtain ⟨wa, Fs, xs, h00, hA⟩ := hG
        have hAf := hA.flat
        go_wp2_with (at_builtin; go_must (refine wpList_append_push2 (α := InsIns) (w0 := wa) (wr := w3) rfl _ _ 23 rfl i0 _ 32 Tryd.underlying23 HI.out HZ0.out HZ1.out HZ2.out rfl (by decide) hA.app rfl (i) #[.int .i64 i.op, .int .i64 i.d, .int .i64 i.a, .int .i64 i.k] 30 [] _ rfl Ext.auto ⟨rfl, hok9, rfl⟩ (Fr.nil _ _) (by repeat (first | (exact fun _ h => absurd h (List.not_mem_nil)) | (refine List.forall_mem_cons.2 ⟨rfl, ?_⟩))) (by unfold maxLen; omega) (by omega) ?_); intro v' w9 xs' hA9 hg9 hb9; have hG9 := Gro.push h00 (fun q hq => (hGl q hq).1) (by simp; omega) hAf hA9 hb9; have hT9 := (Turn.of_grown (a := w3) (b := (w3.alloc (.cells #[.int .i64 i.op, .int .i64 i.d, .int .i64 i.a, .int .i64 i.k] 30))) Ext.auto hg9); obtain ⟨A9, c9, rfl, -, -⟩ := hG9.form; have hE9 := hT9.ext hE (fun q hq => (hGl q (by simpa using hq)).1))
        have hl1 : (l ++ [i]).length = l.length + 1 := by simp
        go_round
        case rel => exact ⟨l ++ [i], A9, c9, by rw [hl1], by rw [hl1]; go_num, by omega, HN, hG9, hE9⟩
        case measure => (simp [intOf]; try omega)
    · have HF := hide (take_end HB.out (by omega))
      go_wp2
      go_ret
      refine ⟨⟨_, rfl, ?_⟩, hE⟩
      rw [← HF.out]
      exact hG

set_option maxHeartbeats 16000000 in
theorem implBlkTake_any (ws : List Int) (v : Value) (w : World) (h : Sl w (Old w) v ws) (hn : ws.length ≤ 100000) (lf : Nat) (hF : Forms lf w) :
    Calls Tryd.prog 21 #[v] w fun e w' => (∃ v : Value, e = .returned v ∧ Gro 30 w.heap.size w' v (blkTake ws)) ∧ Ext w w' := by
  obtain ⟨i0, hi, hz0, hz1, hz2⟩ := info_parts infInsIns
  have HI := hide hi
  have HZ0 := hide hz0
  have HZ1 := hide hz1
  have HZ2 := hide hz2
  clear hi hz0 hz1 hz2
  obtain ⟨Al, cl, rfl, hll, hml⟩ := h.form
  unfold maxLen at hml
  have hG0 := Gro.nil (α := InsIns) w 30 w.heap.size
  have hE0 : Ext w w := Ext.refl _
  go_enter Tryd.func21, Tryd.ntmps21
  go_wp2
  go_loopw [3, 5, 6, 7, 10] (fun vo _ _ _ vk wz => ∃ (l : List InsIns) (A : Option Addr) (c : Nat), vo = .slice A l.length c ∧ vk = .int .i64 (l.length : Int) ∧ l.length ≤ ws.length ∧ Hid (blkTake ws = l ++ blkTake (ws.drop l.length)) ∧ Gro 30 w.heap.size wz (.slice A l.length c) l ∧ Ext w wz) (fun _ _ _ _ vk _ => ws.length - (intOf vk).toNat)
  case atStart => exact ⟨[], _, 0, rfl, rfl, by simp, rfl, hG0, hE0⟩
  case round =>
    obtain ⟨w1, hwr⟩ : ∃ w1 : World, w1 = wr := ⟨_, rfl⟩
    subst hwr
    obtain ⟨l, A, c, rfl, rfl, hle, HB, hG, hE⟩ := hrel
    have hsw := hE.size
    by_cases hlt : l.length < ws.length
    · have HGO := hide (take_go HB.out hlt)
      have HSTOP := hide (take_stop HB.out hlt)
      have hin9 := insTake_in ws[l.length]
      obtain ⟨b, off, rfl, hbo, hk0, e0⟩ := at_Int (h.ext hE) hlt
      have z0 : (0 : Int) ≤ (l.length : Int) := by omega
      have z1 : (l.length : Int) < (ws.length : Int) := by omega
      have hFe := hF.ext hE
      go_wp2_with fail
      refine (implInsTake_any ws[l.length] _ lf hFe).mono ?_
      rintro e w2 ⟨rfl, hy⟩
      go_upto_region 6 with fail
      have hBx : Bx (w2.alloc (.cells #[.int .i64 (insTake ws[l.length]).op, .int .i64 (insTake ws[l.length]).d, .int .i64 (insTake ws[l.length]).a, .int .i64 (insTake ws[l.length]).k] 30)) w2.heap.size [.int .i64 (insTake ws[l.length]).op, .int .i64 (insTake ws[l.length]).d, .int .i64 (insTake ws[l.length]).a, .int .i64 (insTake ws[l.length]).k] := Bx.new w2 #[.int .i64 (insTake ws[l.length]).op, .int .i64 (insTake ws[l.length]).d, .int .i64 (insTake ws[l.length]).a, .int .i64 (insTake ws[l.length]).k] 30
      have hEx := hE.trans ((hy.trans (show Ext w2 (w2.alloc (.cells #[.int .i64 (insTake ws[l.length]).op, .int .i64 (insTake ws[l.length]).d, .int .i64 (insTake ws[l.length]).a, .int .i64 (insTake ws[l.length]).k] 30)) from Ext.auto)))
      have hG2 := hG.ext ((hy.trans (show Ext w2 (w2.alloc (.cells #[.int .i64 (insTake ws[l.length]).op, .int .i64 (insTake ws[l.length]).d, .int .i64 (insTake ws[l.length]).a, .int .i64 (insTake ws[l.length]).k] 30)) from Ext.auto)))
      have hs1 : w1.heap.size ≤ w2.heap.size := hy.size
      have hs2 : w2.heap.size + 1 ≤ (w2.alloc (.cells #[.int .i64 (insTake ws[l.length]).op, .int .i64 (insTake ws[l.length]).d, .int .i64 (insTake ws[l.length]).a, .int .i64 (insTake ws[l.length]).k] 30)).heap.size := by simp
      clear e0 hG hE hy
      generalize (w2.alloc (.cells #[.int .i64 (insTake ws[l.length]).op, .int .i64 (insTake ws[l.length]).d, .int .i64 (insTake ws[l.length]).a, .int .i64 (insTake ws[l.length]).k] 30)) = w3 at *
      have hE := hEx
      have hG := hG2
      have hGl := hG.lt
      have yx : w2.heap.size < w3.heap.size := by omega
      have xx0 := hBx 0 _ rfl
      have xx1 := hBx 1 _ rfl
      have xx2 := hBx 2 _ rfl
      have xx3 := hBx 3 _ rfl
      generalize hn9 : insTakeB ws[l.length] = ok at *
      generalize insTake ws[l.length] = i at *
      clear hn9
      cases ok
      · have HF := hide (HSTOP.out rfl)
        go_wp2
        go_ret
        refine ⟨⟨_, rfl, ?_⟩, hE⟩
        rw [← HF.out]
        exact hG
      · have hok9 : InsIns.Ok i := hin9.ok
        have HN := hide (HGO.out rfl)
        obtain ⟨wa, Fs, xs, h00, hA⟩ := hG
        have hAf := hA.flat
        go_wp2_with (at_builtin; go_must (refine wpList_append_push2 (α := InsIns) (w0 := wa) (wr := w3) rfl _ _ 23 rfl i0 _ 32 Tryd.underlying23 HI.out HZ0.out HZ1.out HZ2.out rfl (by decide) hA.app rfl (i) #[.int .i64 i.op, .int .i64 i.d, .int .i64 i.a, .int .i64 i.k] 30 [] _ rfl Ext.auto ⟨rfl, hok9, rfl⟩ (Fr.nil _ _) (by repeat (first | (exact fun _ h => absurd h (List.not_mem_nil)) | (refine List.forall_mem_cons.2 ⟨rfl, ?_⟩))) (by unfold maxLen; omega) (by omega) ?_); intro v' w9 xs' hA9 hg9 hb9; have hG9 := Gro.push h00 (fun q hq => (hGl q hq).1) (by simp; omega) hAf hA9 hb9; have hT9 := (Turn.of_grown (a := w3) (b := (w3.alloc (.cells #[.int .i64 i.op, .int .i64 i.d, .int .i64 i.a, .int .i64 i.k] 30))) Ext.auto hg9); obtain ⟨A9, c9, rfl, -, -⟩ := hG9.form; have hE9 := hT9.ext hE (fun q hq => (hGl q (by simpa using hq)).1))
        have hl1 : (l ++ [i]).length = l.length + 1 := by simp
        go_round
        case rel => exact ⟨l ++ [i], A9, c9, by rw [hl1], by rw [hl1]; go_num, by omega, HN, hG9, hE9⟩
        case measure => (simp [intOf]; try omega)
    · have HF := hide (take_end HB.out (by omega))
      go_wp2
      go_ret
      refine ⟨⟨_, rfl, ?_⟩, hE⟩
      rw [← HF.out]
      exact hG

end Go.Proofs.YtokibcicoomceaaDoor
