/-
  Instructions as words: the program.
-/
import Derived.Test.YtokibcicoomceaaDoorDrawO
import Derived.Test.YtokibcicoomceaaDoorBlkOkI
import Derived.Deep.DeepCutAuto
namespace Go.Proofs.YtokibcicoomceaaDoor
open Go.RowKit

set_option linter.unusedVariables false
set_option linter.unusedSimpArgs false
set_option maxRecDepth 100000

set_option maxHeartbeats 16000000 in
theorem implBlkWords_any (l : List InsIns) (v : Value) (w : World) (h : Sl w (Old w) v l) (hn : l.length ≤ 100000) (lf : Nat) (hF : Forms lf w) :
    Calls Tryd.prog 20 #[v] w fun e w' => (∃ v : Value, e = .returned v ∧ Gro 3 w.heap.size w' v (l.map insPut)) ∧ Ext w w' := by
  obtain ⟨i0, hi, hz0, hz1, hz2⟩ := info_parts infInt
  have HI := hide hi
  have HZ0 := hide hz0
  have HZ1 := hide hz1
  have HZ2 := hide hz2
  clear hi hz0 hz1 hz2
  obtain ⟨Al, cl, rfl, hll, hml⟩ := h.form
  unfold maxLen at hml
  have hG0 := Gro.nil (α := Int) w 3 w.heap.size
  have hE0 : Ext w w := Ext.refl _
  go_enter Tryd.func20, Tryd.ntmps20
  go_wp2
  go_loopw [3, 5, 8] (fun vo _ vk wz => ∃ (ws : List Int) (A : Option Addr) (c : Nat), vo = .slice A ws.length c ∧ vk = .int .i64 (ws.length : Int) ∧ ws.length ≤ l.length ∧ Hid (ws = (l.take ws.length).map insPut) ∧ Gro 3 w.heap.size wz (.slice A ws.length c) ws ∧ Ext w wz) (fun _ _ vk _ => l.length - (intOf vk).toNat)
  case atStart => exact ⟨[], _, 0, rfl, rfl, by simp, rfl, hG0, hE0⟩
  case round =>
    obtain ⟨w1, hwr⟩ : ∃ w1 : World, w1 = wr := ⟨_, rfl⟩
    subst hwr
    obtain ⟨ws, A, c, rfl, rfl, hle, HB, hG, hE⟩ := hrel
    have hGl := hG.lt
    have hsw := hE.size
    by_cases hlt : ws.length < l.length
    · have HN := hide (put_next HB.out hlt)
      have hw := insPut_word l[ws.length]
      obtain ⟨b, off, rfl, hbo, hk0, e0, e1, e2, e3⟩ := at_InsIns (h.ext hE) hlt
      have hbl : b < w1.heap.size := hbo
      have z0 : (0 : Int) ≤ (ws.length : Int) := by omega
      have z1 : (ws.length : Int) < (l.length : Int) := by omega
      have hFe := hF.ext hE
      go_upto_region 5 with fail
      have hBx : Bx (w1.alloc (.cells #[.int .i64 l[ws.length].op, .int .i64 l[ws.length].d, .int .i64 l[ws.length].a, .int .i64 l[ws.length].k] 30)) w1.heap.size [.int .i64 l[ws.length].op, .int .i64 l[ws.length].d, .int .i64 l[ws.length].a, .int .i64 l[ws.length].k] := Bx.new w1 #[.int .i64 l[ws.length].op, .int .i64 l[ws.length].d, .int .i64 l[ws.length].a, .int .i64 l[ws.length].k] 30
      have hE12 : Ext w1 (w1.alloc (.cells #[.int .i64 l[ws.length].op, .int .i64 l[ws.length].d, .int .i64 l[ws.length].a, .int .i64 l[ws.length].k] 30)) := Ext.auto
      have hG1 := hG.ext hE12
      have hE1 := hE.trans hE12
      have hF1 := hFe.ext hE12
      have hs1 : w1.heap.size + 1 ≤ (w1.alloc (.cells #[.int .i64 l[ws.length].op, .int .i64 l[ws.length].d, .int .i64 l[ws.length].a, .int .i64 l[ws.length].k] 30)).heap.size := by simp
      have h1 := h.ext hE1
      clear e0 e1 e2 e3 hG hE
      generalize (w1.alloc (.cells #[.int .i64 l[ws.length].op, .int .i64 l[ws.length].d, .int .i64 l[ws.length].a, .int .i64 l[ws.length].k] 30)) = wq at *
      have hG := hG1
      have hE := hE1
      have yx : w1.heap.size < wq.heap.size := by omega
      have xx0 := hBx 0 _ rfl
      have xx1 := hBx 1 _ rfl
      have xx2 := hBx 2 _ rfl
      have xx3 := hBx 3 _ rfl
      go_wp2_with fail
      refine (implInsPut_any l[ws.length] _ lf hF1).mono ?_
      rintro e w2 ⟨rfl, hy⟩
      generalize insPut l[ws.length] = v at *
      have hG2 := hG.ext hy
      obtain ⟨wa, Fs, xs, h00, hA⟩ := hG2
      have hAf := hA.flat
      have hfit : Fits v := by unfold Fits; omega
      clear xx0 xx1 xx2 xx3
      go_wp2_with (at_builtin; go_must (refine wpList_append_push2 (α := Int) (w0 := wa) (wr := w2) rfl _ _ 39 rfl i0 _ 8 Tryd.underlying39 HI.out HZ0.out HZ1.out HZ2.out rfl (by decide) hA.app rfl v #[.int .i64 v] 3 [] _ rfl Ext.auto ⟨⟨rfl, hfit⟩, rfl⟩ (Fr.nil _ _) (by repeat (first | (exact fun _ h => absurd h (List.not_mem_nil)) | (refine List.forall_mem_cons.2 ⟨rfl, ?_⟩))) (by unfold maxLen; omega) (by omega) ?_); intro v' w9 xs' hA9 hg9 hb9; have hG9 := Gro.push h00 (fun q hq => (hGl q hq).1) (by simp; have := hy.size; omega) hAf hA9 hb9; have hT9 := (Turn.of_grown (a := w2) (b := (w2.alloc (.cells #[.int .i64 v] 3))) Ext.auto hg9); obtain ⟨A9, c9, rfl, hl9, hm9⟩ := hG9.form; have hE9 := hT9.ext (hE.trans hy) (fun q hq => (hGl q (by simpa using hq)).1))
      have hl1 : (ws ++ [v]).length = ws.length + 1 := by simp
      go_round
      case rel => exact ⟨ws ++ [v], A9, c9, by rw [hl1], by rw [hl1]; go_num, by omega, HN, hG9, hE9⟩
      case measure => (simp [intOf]; try omega)
    · have HF := hide (show ws = l.map insPut by
        have := HB.out
        rw [List.take_of_length_le (by omega)] at this
        exact this)
      go_wp2
      go_ret
      refine ⟨⟨_, rfl, ?_⟩, hE⟩
      rw [← HF.out]
      exact hG

end Go.Proofs.YtokibcicoomceaaDoor
