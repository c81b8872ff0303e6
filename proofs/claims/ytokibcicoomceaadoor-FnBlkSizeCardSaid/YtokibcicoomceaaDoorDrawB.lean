/-
  Instructions as words.
-/
import Derived.Test.YtokibcicoomceaaDoorDrawS
import Derived.Test.YtokibcicoomceaaDoorDrawF
import Derived.Test.YtokibcicoomceaaDoorInsI
import Derived.Deep.DeepCutAuto
namespace Go.Proofs.YtokibcicoomceaaDoor
open Go.RowKit

set_option linter.unusedVariables false
set_option linter.unusedSimpArgs false
set_option maxRecDepth 100000

set_option maxHeartbeats 8000000 in
theorem specInsPut_any (i : InsIns) (w : World) : Calls Tryd.prog 61 #[.agg #[.int .i64 i.op, .int .i64 i.d, .int .i64 i.a, .int .i64 i.k]] w fun e w' => e = .returned (.int .i64 (insPut i)) ∧ Ext w w' := by
  cases q0 : insOkB i
  · 
    have HV := hide (show insPut i = 0 by unfold insPut; rw [if_neg (by rw [q0]; simp)])
    go_enter Tryd.func61, Tryd.ntmps61
    go_upto_region 1 with fail
    have he0 : Ext w (w.alloc (Obj.cells #[.int .i64 i.op, .int .i64 i.d, .int .i64 i.a, .int .i64 i.k] 30)) := (Ext.auto)
    have hs0 : w.heap.size + 1 ≤ ((w.alloc (Obj.cells #[.int .i64 i.op, .int .i64 i.d, .int .i64 i.a, .int .i64 i.k] 30))).heap.size := by simp
    have hq0 := hide (show ((w.alloc (Obj.cells #[.int .i64 i.op, .int .i64 i.d, .int .i64 i.a, .int .i64 i.k] 30))).heap.size = w.heap.size + 1 by simp)
    have hBi_0 : Bx (w.alloc (Obj.cells #[.int .i64 i.op, .int .i64 i.d, .int .i64 i.a, .int .i64 i.k] 30)) (w.heap.size) [.int .i64 i.op, .int .i64 i.d, .int .i64 i.a, .int .i64 i.k] := (by have := (Bx.new w #[.int .i64 i.op, .int .i64 i.d, .int .i64 i.a, .int .i64 i.k] 30); simpa using this)
    have hFi_0 : ∀ oo, ((w.alloc (Obj.cells #[.int .i64 i.op, .int .i64 i.d, .int .i64 i.a, .int .i64 i.k] 30))).frozen? ⟨w.heap.size, oo, none⟩ = false := fun oo => by simp
    generalize (w.alloc (Obj.cells #[.int .i64 i.op, .int .i64 i.d, .int .i64 i.a, .int .i64 i.k] 30)) = w0 at *
    have yi : w.heap.size < w0.heap.size := by omega
    have xi0 := hBi_0 0 _ rfl
    have xi1 := hBi_0 1 _ rfl
    have xi2 := hBi_0 2 _ rfl
    have xi3 := hBi_0 3 _ rfl
    have fi := hFi_0
    go_wp2_with fail
    refine (specInsOk_any i _).mono ?_
    rintro e w1 ⟨rfl, hy⟩
    simp only [q0]
    clear xi0 xi1 xi2 xi3 yi
    clear fi
    have hs1 := hy.size
    try simp at hs1
    have he1 : Ext w w1 := Ext.trans (Ext.hold he0) hy
    have hBi_1 : Bx w1 (w.heap.size) [.int .i64 i.op, .int .i64 i.d, .int .i64 i.a, .int .i64 i.k] := hy.bx (Bx.hold hBi_0) (by first | omega | (simp; done) | (simp; omega))
    have hFi_1 : ∀ oo, w1.frozen? ⟨w.heap.size, oo, none⟩ = false := fun oo => (hy.frozen (by first | omega | (simp; done) | (simp; omega))).trans ((fz_hold hFi_0) oo)
    try clear hBi_0 hFi_0
    clear hy q0
    have yi : w.heap.size < w1.heap.size := by omega
    have xi0 := hBi_1 0 _ rfl
    have xi1 := hBi_1 1 _ rfl
    have xi2 := hBi_1 2 _ rfl
    have xi3 := hBi_1 3 _ rfl
    have fi := hFi_1
    go_wp2
    go_ret
    exact ⟨by rw [HV.out]; rfl, Ext.hold he1⟩
  · 
    have r := insR q0
    have r1 := r.o0
    have r2 := r.o1
    have r3 := r.d0
    have r4 := r.d1
    have r5 := r.a0
    have r6 := r.a1
    have r7 := r.k0
    have r8 := r.k1
    clear r
    have HV := hide (show insPut i = i.op * 4096 + i.d * 1024 + i.a * 256 + i.k by unfold insPut; rw [if_pos q0])
    go_enter Tryd.func61, Tryd.ntmps61
    go_upto_region 1 with fail
    have he0 : Ext w (w.alloc (Obj.cells #[.int .i64 i.op, .int .i64 i.d, .int .i64 i.a, .int .i64 i.k] 30)) := (Ext.auto)
    have hs0 : w.heap.size + 1 ≤ ((w.alloc (Obj.cells #[.int .i64 i.op, .int .i64 i.d, .int .i64 i.a, .int .i64 i.k] 30))).heap.size := by simp
    have hq0 := hide (show ((w.alloc (Obj.cells #[.int .i64 i.op, .int .i64 i.d, .int .i64 i.a, .int .i64 i.k] 30))).heap.size = w.heap.size + 1 by simp)
    have hBi_0 : Bx (w.alloc (Obj.cells #[.int .i64 i.op, .int .i64 i.d, .int .i64 i.a, .int .i64 i.k] 30)) (w.heap.size) [.int .i64 i.op, .int .i64 i.d, .int .i64 i.a, .int .i64 i.k] := (by have := (Bx.new w #[.int .i64 i.op, .int .i64 i.d, .int .i64 i.a, .int .i64 i.k] 30); simpa using this)
    have hFi_0 : ∀ oo, ((w.alloc (Obj.cells #[.int .i64 i.op, .int .i64 i.d, .int .i64 i.a, .int .i64 i.k] 30))).frozen? ⟨w.heap.size, oo, none⟩ = false := fun oo => by simp
    generalize (w.alloc (Obj.cells #[.int .i64 i.op, .int .i64 i.d, .int .i64 i.a, .int .i64 i.k] 30)) = w0 at *
    have yi : w.heap.size < w0.heap.size := by omega
    have xi0 := hBi_0 0 _ rfl
    have xi1 := hBi_0 1 _ rfl
    have xi2 := hBi_0 2 _ rfl
    have xi3 := hBi_0 3 _ rfl
    have fi := hFi_0
    go_wp2_with fail
    refine (specInsOk_any i _).mono ?_
    rintro e w1 ⟨rfl, hy⟩
    simp only [q0]
    clear xi0 xi1 xi2 xi3 yi
    clear fi
    have hs1 := hy.size
    try simp at hs1
    have he1 : Ext w w1 := Ext.trans (Ext.hold he0) hy
    have hBi_1 : Bx w1 (w.heap.size) [.int .i64 i.op, .int .i64 i.d, .int .i64 i.a, .int .i64 i.k] := hy.bx (Bx.hold hBi_0) (by first | omega | (simp; done) | (simp; omega))
    have hFi_1 : ∀ oo, w1.frozen? ⟨w.heap.size, oo, none⟩ = false := fun oo => (hy.frozen (by first | omega | (simp; done) | (simp; omega))).trans ((fz_hold hFi_0) oo)
    try clear hBi_0 hFi_0
    clear hy q0
    have yi : w.heap.size < w1.heap.size := by omega
    have xi0 := hBi_1 0 _ rfl
    have xi1 := hBi_1 1 _ rfl
    have xi2 := hBi_1 2 _ rfl
    have xi3 := hBi_1 3 _ rfl
    have fi := hFi_1
    go_wp2
    go_ret
    exact ⟨by rw [HV.out]; rfl, Ext.hold he1⟩

set_option maxHeartbeats 8000000 in
theorem implInsPut_any (i : InsIns) (w : World) (lo : Nat) (hF : Forms lo w) : Calls Tryd.prog 60 #[.agg #[.int .i64 i.op, .int .i64 i.d, .int .i64 i.a, .int .i64 i.k]] w fun e w' => e = .returned (.int .i64 (insPut i)) ∧ Ext w w' := by
  cases q0 : insOkB i
  · 
    have HV := hide (show insPut i = 0 by unfold insPut; rw [if_neg (by rw [q0]; simp)])
    go_enter Tryd.func60, Tryd.ntmps60
    go_upto_region 1 with fail
    have he0 : Ext w (w.alloc (Obj.cells #[.int .i64 i.op, .int .i64 i.d, .int .i64 i.a, .int .i64 i.k] 30)) := (Ext.auto)
    have hs0 : w.heap.size + 1 ≤ ((w.alloc (Obj.cells #[.int .i64 i.op, .int .i64 i.d, .int .i64 i.a, .int .i64 i.k] 30))).heap.size := by simp
    have hq0 := hide (show ((w.alloc (Obj.cells #[.int .i64 i.op, .int .i64 i.d, .int .i64 i.a, .int .i64 i.k] 30))).heap.size = w.heap.size + 1 by simp)
    have hBi_0 : Bx (w.alloc (Obj.cells #[.int .i64 i.op, .int .i64 i.d, .int .i64 i.a, .int .i64 i.k] 30)) (w.heap.size) [.int .i64 i.op, .int .i64 i.d, .int .i64 i.a, .int .i64 i.k] := (by have := (Bx.new w #[.int .i64 i.op, .int .i64 i.d, .int .i64 i.a, .int .i64 i.k] 30); simpa using this)
    have hFi_0 : ∀ oo, ((w.alloc (Obj.cells #[.int .i64 i.op, .int .i64 i.d, .int .i64 i.a, .int .i64 i.k] 30))).frozen? ⟨w.heap.size, oo, none⟩ = false := fun oo => by simp
    generalize (w.alloc (Obj.cells #[.int .i64 i.op, .int .i64 i.d, .int .i64 i.a, .int .i64 i.k] 30)) = w0 at *
    have yi : w.heap.size < w0.heap.size := by omega
    have xi0 := hBi_0 0 _ rfl
    have xi1 := hBi_0 1 _ rfl
    have xi2 := hBi_0 2 _ rfl
    have xi3 := hBi_0 3 _ rfl
    have fi := hFi_0
    go_wp2_with fail
    refine (implInsOk_any i lo _ (hF.ext Ext.auto)).mono ?_
    rintro e w1 ⟨rfl, hy⟩
    simp only [q0]
    clear xi0 xi1 xi2 xi3 yi
    clear fi
    have hs1 := hy.size
    try simp at hs1
    have he1 : Ext w w1 := Ext.trans (Ext.hold he0) hy
    have hBi_1 : Bx w1 (w.heap.size) [.int .i64 i.op, .int .i64 i.d, .int .i64 i.a, .int .i64 i.k] := hy.bx (Bx.hold hBi_0) (by first | omega | (simp; done) | (simp; omega))
    have hFi_1 : ∀ oo, w1.frozen? ⟨w.heap.size, oo, none⟩ = false := fun oo => (hy.frozen (by first | omega | (simp; done) | (simp; omega))).trans ((fz_hold hFi_0) oo)
    try clear hBi_0 hFi_0
    clear hy q0
    have yi : w.heap.size < w1.heap.size := by omega
    have xi0 := hBi_1 0 _ rfl
    have xi1 := hBi_1 1 _ rfl
    have xi2 := hBi_1 2 _ rfl
    have xi3 := hBi_1 3 _ rfl
    have fi := hFi_1
    go_wp2
    go_ret
    exact ⟨by rw [HV.out]; rfl, Ext.hold he1⟩
  · 
    have r := insR q0
    have r1 := r.o0
    have r2 := r.o1
    have r3 := r.d0
    have r4 := r.d1
    have r5 := r.a0
    have r6 := r.a1
    have r7 := r.k0
    have r8 := r.k1
    clear r
    have HV := hide (show insPut i = i.op * 4096 + i.d * 1024 + i.a * 256 + i.k by unfold insPut; rw [if_pos q0])
    go_enter Tryd.func60, Tryd.ntmps60
    go_upto_region 1 with fail
    have he0 : Ext w (w.alloc (Obj.cells #[.int .i64 i.op, .int .i64 i.d, .int .i64 i.a, .int .i64 i.k] 30)) := (Ext.auto)
    have hs0 : w.heap.size + 1 ≤ ((w.alloc (Obj.cells #[.int .i64 i.op, .int .i64 i.d, .int .i64 i.a, .int .i64 i.k] 30))).heap.size := by simp
    have hq0 := hide (show ((w.alloc (Obj.cells #[.int .i64 i.op, .int .i64 i.d, .int .i64 i.a, .int .i64 i.k] 30))).heap.size = w.heap.size + 1 by simp)
    have hBi_0 : Bx (w.alloc (Obj.cells #[.int .i64 i.op, .int .i64 i.d, .int .i64 i.a, .int .i64 i.k] 30)) (w.heap.size) [.int .i64 i.op, .int .i64 i.d, .int .i64 i.a, .int .i64 i.k] := (by have := (Bx.new w #[.int .i64 i.op, .int .i64 i.d, .int .i64 i.a, .int .i64 i.k] 30); simpa using this)
    have hFi_0 : ∀ oo, ((w.alloc (Obj.cells #[.int .i64 i.op, .int .i64 i.d, .int .i64 i.a, .int .i64 i.k] 30))).frozen? ⟨w.heap.size, oo, none⟩ = false := fun oo => by simp
    generalize (w.alloc (Obj.cells #[.int .i64 i.op, .int .i64 i.d, .int .i64 i.a, .int .i64 i.k] 30)) = w0 at *
    have yi : w.heap.size < w0.heap.size := by omega
    have xi0 := hBi_0 0 _ rfl
    have xi1 := hBi_0 1 _ rfl
    have xi2 := hBi_0 2 _ rfl
    have xi3 := hBi_0 3 _ rfl
    have fi := hFi_0
    go_wp2_with fail
    refine (implInsOk_any i lo _ (hF.ext Ext.auto)).mono ?_
    rintro e w1 ⟨rfl, hy⟩
    simp only [q0]
    clear xi0 xi1 xi2 xi3 yi
    clear fi
    have hs1 := hy.size
    try simp at hs1
    have he1 : Ext w w1 := Ext.trans (Ext.hold he0) hy
    have hBi_1 : Bx w1 (w.heap.size) [.int .i64 i.op, .int .i64 i.d, .int .i64 i.a, .int .i64 i.k] := hy.bx (Bx.hold hBi_0) (by first | omega | (simp; done) | (simp; omega))
    have hFi_1 : ∀ oo, w1.frozen? ⟨w.heap.size, oo, none⟩ = false := fun oo => (hy.frozen (by first | omega | (simp; done) | (simp; omega))).trans ((fz_hold hFi_0) oo)
    try clear hBi_0 hFi_0
    clear hy q0
    have yi : w.heap.size < w1.heap.size := by omega
    have xi0 := hBi_1 0 _ rfl
    have xi1 := hBi_1 1 _ rfl
    have xi2 := hBi_1 2 _ rfl
    have xi3 := hBi_1 3 _ rfl
    have fi := hFi_1
    go_wp2
    go_ret
    exact ⟨by rw [HV.out]; rfl, Ext.hold he1⟩

theorem put_next {l : List InsIns} {ws : List Int} (h : ws = (l.take ws.length).map insPut) (hlt : ws.length < l.length) : ws ++ [insPut l[ws.length]] = (l.take (ws ++ [insPut l[ws.length]]).length).map insPut := by
  have e : (ws ++ [insPut l[ws.length]]).length = ws.length + 1 := by simp
  rw [e, List.take_succ_eq_append_getElem hlt, List.map_append, ← h]
  rfl
set_option maxHeartbeats 16000000 in
theorem blkWords_any (l : List InsIns) (v : Value) (w : World) (h : Sl w (Old w) v l) (hn : l.length ≤ 100000) :
    Calls Tryd.prog 23 #[v] w fun e w' => (∃ v : Value, e = .returned v ∧ Gro 3 w.heap.size w' v (l.map insPut)) ∧ Ext w w' := by
  obtain ⟨i0, hi, hz0, hz1, hz2⟩ := info_parts infInt
  have HI := hide hi
  have HZ0 := hide hz0
  have HZ1 := hide hz1
  have HZ2 := hide hz2
  clear hi hz0 hz1 hz2
  obtain ⟨Al, cl, rfl, hll, hml⟩ := h.form
  unfold maxLen at hml
  have hG0 := Gro.empty (α := Int) w 3
  have hE0 : Ext w (w.alloc (.cells #[] 3)) := (Ext.refl _).alloc _
  go_enter Tryd.func23, Tryd.ntmps23
  go_wp2
  go_loopw [3, 4] (fun vo vk wz => ∃ (ws : List Int) (A : Option Addr) (c : Nat), vo = .slice A ws.length c ∧ vk = .int .i64 (ws.length : Int) ∧ ws.length ≤ l.length ∧ Hid (ws = (l.take ws.length).map insPut) ∧ Gro 3 w.heap.size wz (.slice A ws.length c) ws ∧ Ext w wz) (fun _ vk _ => l.length - (intOf vk).toNat)
  case atStart => exact ⟨[], _, 0, rfl, rfl, by simp, rfl, hG0, hE0⟩
  case round =>
    obtain ⟨w1, hwr⟩ : ∃ w1 : World, w1 = wr := ⟨_, rfl⟩
    subst hwr
    obtain ⟨ws, A, c, rfl, rfl, hle, HB, hG, hE⟩ := hrel
    have hGl := hG.lt
    have hsw := hE.size
    by_cases hlt : ws.length < l.length
    · have HN := hide (put_next HB.out hlt)
      have hw := insPut_word l[ws.length]
      obtain ⟨b, off, rfl, hbo, hk0, e0, e1, e2, e3⟩ := at_InsIns (h.ext hE) hlt
      have hbl : b < w1.heap.size := hbo
      have z0 : (0 : Int) ≤ (ws.length : Int) := by omega
      have z1 : (ws.length : Int) < (l.length : Int) := by omega
      go_wp2_with fail
      refine (specInsPut_any l[ws.length] _).mono ?_
      rintro e w2 ⟨rfl, hy⟩
      generalize insPut l[ws.length] = v at *
      have hG2 := hG.ext hy
      obtain ⟨wa, Fs, xs, h00, hA⟩ := hG2
      have hAf := hA.flat
      have hfit : Fits v := by unfold Fits; omega
      clear e0 e1 e2 e3
      go_wp2_with (at_builtin; go_must (refine wpList_append_push2 (α := Int) (w0 := wa) (wr := w2) rfl _ _ 39 rfl i0 _ 8 Tryd.underlying39 HI.out HZ0.out HZ1.out HZ2.out rfl (by decide) hA.app rfl v #[.int .i64 v] 3 [] _ rfl Ext.auto ⟨⟨rfl, hfit⟩, rfl⟩ (Fr.nil _ _) (by repeat (first | (exact fun _ h => absurd h (List.not_mem_nil)) | (refine List.forall_mem_cons.2 ⟨rfl, ?_⟩))) (by unfold maxLen; omega) (by omega) ?_); intro v' w9 xs' hA9 hg9 hb9; have hG9 := Gro.push h00 (fun q hq => (hGl q hq).1) (by simp; have := hy.size; omega) hAf hA9 hb9; have hT9 := (Turn.of_grown (a := w2) (b := (w2.alloc (.cells #[.int .i64 v] 3))) Ext.auto hg9); obtain ⟨A9, c9, rfl, hl9, hm9⟩ := hG9.form; have hE9 := hT9.ext (hE.trans hy) (fun q hq => (hGl q (by simpa using hq)).1))
      have hl1 : (ws ++ [v]).length = ws.length + 1 := by simp
      go_round
      case rel => exact ⟨ws ++ [v], A9, c9, by rw [hl1], by rw [hl1]; go_num, by omega, HN, hG9, hE9⟩
      case measure => (simp [intOf]; try omega)
    · have HF := hide (show ws = l.map insPut by
        have := HB.out
        rw [List.take_of_length_le (by omega)] at this
        exact this)
      go_wp2
      go_ret
      refine ⟨⟨_, rfl, ?_⟩, hE⟩
      rw [← HF.out]
      exact hG

end Go.Proofs.YtokibcicoomceaaDoor
