/-
  Drop
-/
import Derived.Test.YteaacelfnkiboaaYAlias
import Derived.Test.YteaacelfnkiboaaYRowLib
import Derived.Test.YteaacelfnkiboaaYRoom0Lib
import Derived.Deep.DeepCutAuto
namespace Go.Proofs.Yteaacelfnkiboaa
open Go.RowKit

set_option linter.unusedVariables false
set_option linter.unusedSimpArgs false
set_option maxRecDepth 100000

theorem namesTo_mem (ops : List IrOp) (ks : List Bool) : ∀ k n, n ∈ namesTo ops ks k → 0 ≤ n ∧ n ≤ (k : Int)
  | 0, n, h => by simp [namesTo] at h
  | k + 1, n, h => by
    unfold namesTo at h
    rcases List.mem_append.1 h with h | h
    · have := namesTo_mem ops ks k n h; omega
    · have := keptTo_length ops ks k
      simp at h; omega
theorem gI_fits (N : List Int) (h : ∀ n, n ∈ N → Fits n) (i : Int) : Fits (gI N i) := by
  unfold gI
  cases hq : N[i.toNat]? with
  | none => exact fits_small (by simp) (by simp)
  | some x => exact h x (List.mem_of_getElem? hq)
theorem ren_ok (N : List Int) (o : IrOp) (h : o.Ok) (hN : ∀ n, n ∈ N → Fits n) : (ren N o).Ok := by
  refine ⟨h.1, ?_, ?_, h.2.2.2.1, h.2.2.2.2⟩
  · show Fits (if hasX o.kind = true then gI N o.x else o.x)
    split
    · exact gI_fits N hN _
    · exact h.2.1
  · show Fits (if hasY o.kind = true then gI N o.y else o.y)
    split
    · exact gI_fits N hN _
    · exact h.2.2.1

set_option maxHeartbeats 32000000 in
theorem l10DropR_any (b : IrBlock) (ks : List Bool) (v vk : Value) (w : World) (h : Sl w (Old w) v b.ops) (hkk : Sl w (Old w) vk ks) (hok : irOkB b = true) (hks : ks.length = b.ops.length) :
    Calls Try.prog 119 #[.agg #[.int .i64 b.pc, .int .i64 b.len, v, .int .i64 b.fin, .int .i64 b.x, .int .i64 b.y, .int .i64 b.k], vk] w fun e w' => ∃ r1 F, e = .returned (.agg #[.int .i64 ((dropB b ks).pc), .int .i64 ((dropB b ks).len), r1, .int .i64 ((dropB b ks).fin), .int .i64 ((dropB b ks).x), .int .i64 ((dropB b ks).y), .int .i64 ((dropB b ks).k)]) ∧ OwnSl w' r1 (dropB b ks).ops F ∧ Fr w w' F ∧ Ext w w' ∧ Room w.heap.size (Rep.sz IrOp) 58 w' r1 := by
  obtain ⟨Ab1, cb1, rfl, hl, hm⟩ := h.form
  obtain ⟨Ak, ck, rfl, hlk, hmk_⟩ := hkk.form
  unfold maxLen at hm hmk_
  have hn48 := ok_n hok
  obtain ⟨i0, hi, hz0, hz1, hz2⟩ := info_parts infIrOp
  have HI0 := hide hi
  have HZ00 := hide hz0
  have HZ10 := hide hz1
  have HZ20 := hide hz2
  clear hi hz0 hz1 hz2
  obtain ⟨i1, hi, hz0, hz1, hz2⟩ := info_parts infzInt
  have HI1 := hide hi
  have HZ01 := hide hz0
  have HZ11 := hide hz1
  have HZ21 := hide hz2
  clear hi hz0 hz1 hz2
  go_enter Try.func119, Try.ntmps119
  have he0 : Ext w w := Ext.refl _
  have hs0 : w.heap.size ≤ w.heap.size := Nat.le_refl _
  have hq0 := hide (rfl : w.heap.size = w.heap.size)
  go_wp2_with fail
  have he1 : Ext w ((w.alloc (Obj.cells #[.int .i64 b.pc, .int .i64 b.len, (.slice Ab1 b.ops.length cb1), .int .i64 b.fin, .int .i64 b.x, .int .i64 b.y, .int .i64 b.k] 25)).alloc (Obj.cells #[.int .i64 0, .int .i64 0, .slice none 0 0, .int .i64 0, .int .i64 0, .int .i64 0, .int .i64 0] 25)) := (Ext.hold he0)
  have hs1 : w.heap.size + 2 ≤ (((w.alloc (Obj.cells #[.int .i64 b.pc, .int .i64 b.len, (.slice Ab1 b.ops.length cb1), .int .i64 b.fin, .int .i64 b.x, .int .i64 b.y, .int .i64 b.k] 25)).alloc (Obj.cells #[.int .i64 0, .int .i64 0, .slice none 0 0, .int .i64 0, .int .i64 0, .int .i64 0, .int .i64 0] 25))).heap.size := by simp
  have hq1 := hide (show (((w.alloc (Obj.cells #[.int .i64 b.pc, .int .i64 b.len, (.slice Ab1 b.ops.length cb1), .int .i64 b.fin, .int .i64 b.x, .int .i64 b.y, .int .i64 b.k] 25)).alloc (Obj.cells #[.int .i64 0, .int .i64 0, .slice none 0 0, .int .i64 0, .int .i64 0, .int .i64 0, .int .i64 0] 25))).heap.size = w.heap.size + 2 by simp)
  have hBb_1 : Bx (((w.alloc (Obj.cells #[.int .i64 b.pc, .int .i64 b.len, (.slice Ab1 b.ops.length cb1), .int .i64 b.fin, .int .i64 b.x, .int .i64 b.y, .int .i64 b.k] 25)).alloc (Obj.cells #[.int .i64 0, .int .i64 0, .slice none 0 0, .int .i64 0, .int .i64 0, .int .i64 0, .int .i64 0] 25))) (w.heap.size) [.int .i64 b.pc, .int .i64 b.len, (.slice Ab1 b.ops.length cb1), .int .i64 b.fin, .int .i64 b.x, .int .i64 b.y, .int .i64 b.k] := (by have := Bx.alloc (Bx.new w #[.int .i64 b.pc, .int .i64 b.len, (.slice Ab1 b.ops.length cb1), .int .i64 b.fin, .int .i64 b.x, .int .i64 b.y, .int .i64 b.k] 25) (by first | (simp; done) | (simp; omega)) #[.int .i64 0, .int .i64 0, .slice none 0 0, .int .i64 0, .int .i64 0, .int .i64 0, .int .i64 0] 25; simpa using this)
  have hFb_1 : ∀ oo, (((w.alloc (Obj.cells #[.int .i64 b.pc, .int .i64 b.len, (.slice Ab1 b.ops.length cb1), .int .i64 b.fin, .int .i64 b.x, .int .i64 b.y, .int .i64 b.k] 25)).alloc (Obj.cells #[.int .i64 0, .int .i64 0, .slice none 0 0, .int .i64 0, .int .i64 0, .int .i64 0, .int .i64 0] 25))).frozen? ⟨w.heap.size, oo, none⟩ = false := (fz_alloc (fz_new w #[.int .i64 b.pc, .int .i64 b.len, (.slice Ab1 b.ops.length cb1), .int .i64 b.fin, .int .i64 b.x, .int .i64 b.y, .int .i64 b.k] 25 (by first | rfl | simp)) (by first | (simp; done) | (simp; omega)) (.cells #[.int .i64 0, .int .i64 0, .slice none 0 0, .int .i64 0, .int .i64 0, .int .i64 0, .int .i64 0] 25))
  have hBres_1 : Bx (((w.alloc (Obj.cells #[.int .i64 b.pc, .int .i64 b.len, (.slice Ab1 b.ops.length cb1), .int .i64 b.fin, .int .i64 b.x, .int .i64 b.y, .int .i64 b.k] 25)).alloc (Obj.cells #[.int .i64 0, .int .i64 0, .slice none 0 0, .int .i64 0, .int .i64 0, .int .i64 0, .int .i64 0] 25))) (w.heap.size + 1) [.int .i64 0, .int .i64 0, .slice none 0 0, .int .i64 0, .int .i64 0, .int .i64 0, .int .i64 0] := (by have := Bx.new (w.alloc (Obj.cells #[.int .i64 b.pc, .int .i64 b.len, (.slice Ab1 b.ops.length cb1), .int .i64 b.fin, .int .i64 b.x, .int .i64 b.y, .int .i64 b.k] 25)) #[.int .i64 0, .int .i64 0, .slice none 0 0, .int .i64 0, .int .i64 0, .int .i64 0, .int .i64 0] 25; simpa using this)
  have hFres_1 : ∀ oo, (((w.alloc (Obj.cells #[.int .i64 b.pc, .int .i64 b.len, (.slice Ab1 b.ops.length cb1), .int .i64 b.fin, .int .i64 b.x, .int .i64 b.y, .int .i64 b.k] 25)).alloc (Obj.cells #[.int .i64 0, .int .i64 0, .slice none 0 0, .int .i64 0, .int .i64 0, .int .i64 0, .int .i64 0] 25))).frozen? ⟨w.heap.size + 1, oo, none⟩ = false := (fz_new (w.alloc (Obj.cells #[.int .i64 b.pc, .int .i64 b.len, (.slice Ab1 b.ops.length cb1), .int .i64 b.fin, .int .i64 b.x, .int .i64 b.y, .int .i64 b.k] 25)) #[.int .i64 0, .int .i64 0, .slice none 0 0, .int .i64 0, .int .i64 0, .int .i64 0, .int .i64 0] 25 (by first | rfl | simp))
  generalize ((w.alloc (Obj.cells #[.int .i64 b.pc, .int .i64 b.len, (.slice Ab1 b.ops.length cb1), .int .i64 b.fin, .int .i64 b.x, .int .i64 b.y, .int .i64 b.k] 25)).alloc (Obj.cells #[.int .i64 0, .int .i64 0, .slice none 0 0, .int .i64 0, .int .i64 0, .int .i64 0, .int .i64 0] 25)) = w1 at *
  have hA5 : FApp w1 w1.heap.size ((w1.alloc (.cells #[] 58)).alloc (.cells #[] 3)) 58 (.slice (some ⟨w.heap.size + 1 + 1, 0, none⟩) 0 0) ([] : List IrOp) [] [] := ⟨(App.emptyAt w1 58 _ (by have := hq1.out; omega)).call ((Ext.refl _).alloc _), fun q hq => by simp [Value.ownBlock] at hq; have := hq1.out; omega, rfl⟩
  have hA6 : FApp w1 w1.heap.size ((w1.alloc (.cells #[] 58)).alloc (.cells #[] 3)) 3 (.slice (some ⟨w.heap.size + 1 + 1 + 1, 0, none⟩) 0 0) ([] : List Int) [] [] := ⟨(App.emptyAt (w1.alloc (.cells #[] 58)) 3 _ (by have := hq1.out; simp; omega)).down ((Ext.refl _).alloc _), fun q hq => by simp [Value.ownBlock] at hq; have := hq1.out; omega, rfl⟩
  have hap : Apart2 (.slice (some ⟨w.heap.size + 1 + 1, 0, none⟩) 0 0) (.slice (some ⟨w.heap.size + 1 + 1 + 1, 0, none⟩) 0 0) := fun q hq e => by simp [Value.ownBlock] at hq e; omega
  have he2 : Ext w ((w1.alloc (.cells #[] 58)).alloc (.cells #[] 3)) := (Ext.hold he1)
  have hs2 : w1.heap.size + 2 ≤ (((w1.alloc (.cells #[] 58)).alloc (.cells #[] 3))).heap.size := by simp
  have hq2 := hide (show (((w1.alloc (.cells #[] 58)).alloc (.cells #[] 3))).heap.size = w1.heap.size + 2 by simp)
  have hBb_2 : Bx (((w1.alloc (.cells #[] 58)).alloc (.cells #[] 3))) (w.heap.size) [.int .i64 b.pc, .int .i64 b.len, (.slice Ab1 b.ops.length cb1), .int .i64 b.fin, .int .i64 b.x, .int .i64 b.y, .int .i64 b.k] := Bx.hold hBb_1
  have hFb_2 : ∀ oo, (((w1.alloc (.cells #[] 58)).alloc (.cells #[] 3))).frozen? ⟨w.heap.size, oo, none⟩ = false := (fz_hold hFb_1)
  have hBres_2 : Bx (((w1.alloc (.cells #[] 58)).alloc (.cells #[] 3))) (w.heap.size + 1) [.int .i64 0, .int .i64 0, .slice none 0 0, .int .i64 0, .int .i64 0, .int .i64 0, .int .i64 0] := Bx.hold hBres_1
  have hFres_2 : ∀ oo, (((w1.alloc (.cells #[] 58)).alloc (.cells #[] 3))).frozen? ⟨w.heap.size + 1, oo, none⟩ = false := (fz_hold hFres_1)
  generalize ((w1.alloc (.cells #[] 58)).alloc (.cells #[] 3)) = w2 at *
  clear hBb_1 hFb_1 hBres_1 hFres_1
  go_loopw [5, 6, 7] (fun v5 v6 i w3 => ∃ (k : Nat) (A5 A6 : Option Addr) (c5 c6 : Nat) (Fs Gs : List (List Nat)) (xs ys : List Value), k ≤ b.ops.length ∧ i = .int .i64 (k : Int) ∧ v5 = .slice A5 (keptTo b.ops ks k).length c5 ∧ v6 = .slice A6 k c6 ∧ FApp w1 w1.heap.size w3 58 (.slice A5 (keptTo b.ops ks k).length c5) ((keptTo b.ops ks (k)).map (ren (namesTo b.ops ks (k)))) Fs xs ∧ FApp w1 w1.heap.size w3 3 (.slice A6 k c6) (namesTo b.ops ks k) Gs ys ∧ Apart2 (.slice A5 (keptTo b.ops ks k).length c5) (.slice A6 k c6) ∧ Ext w w3 ∧ w2.heap.size ≤ w3.heap.size ∧ Bx w3 (w.heap.size) [.int .i64 b.pc, .int .i64 b.len, (.slice Ab1 b.ops.length cb1), .int .i64 b.fin, .int .i64 b.x, .int .i64 b.y, .int .i64 b.k] ∧ (∀ oo, w3.frozen? ⟨w.heap.size, oo, none⟩ = false) ∧ Bx w3 (w.heap.size + 1) [.int .i64 0, .int .i64 0, .slice none 0 0, .int .i64 0, .int .i64 0, .int .i64 0, .int .i64 0] ∧ (∀ oo, w3.frozen? ⟨w.heap.size + 1, oo, none⟩ = false)) (fun _ _ i _ => b.ops.length - (intOf i).toNat)
  case atStart => exact ⟨0, some ⟨w.heap.size + 1 + 1, 0, none⟩, some ⟨w.heap.size + 1 + 1 + 1, 0, none⟩, 0, 0, [], [], [], [], by omega, rfl, rfl, rfl, hA5, hA6, hap, he2, Nat.le_refl _, hBb_2, hFb_2, hBres_2, hFres_2⟩
  case round =>
    clear hA5 hA6 hap
    obtain ⟨w3, hwr⟩ : ∃ w3 : World, w3 = wr := ⟨_, rfl⟩
    subst hwr
    obtain ⟨k, A5, A6, c5, c6, Fs, Gs, xs, ys, hk, rfl, rfl, rfl, hA5, hA6, hap, he3, hs3, hBb_3, hFb_3, hBres_3, hFres_3⟩ := hrel
    by_cases hlt : k < b.ops.length
    · 
      have z0 : (0 : Int) ≤ (k : Int) := by omega
      have z1 : (k : Int) < (b.ops.length : Int) := by omega
      have z2 : (k : Int) < (ks.length : Int) := by omega
      have hkl := keptTo_length b.ops ks k
      have HNL := hide (namesTo_length b.ops ks)
      have HNS := hide (show namesTo b.ops ks (k + 1) = namesTo b.ops ks k ++ [((keptTo b.ops ks k).length : Int)] from rfl)
      have yb : w.heap.size < w3.heap.size := by omega
      have xb0 := hBb_3 0 _ rfl
      have xb1 := hBb_3 1 _ rfl
      have xb2 := hBb_3 2 _ rfl
      have xb3 := hBb_3 3 _ rfl
      have xb4 := hBb_3 4 _ rfl
      have xb5 := hBb_3 5 _ rfl
      have xb6 := hBb_3 6 _ rfl
      go_upto_region 7 with (at_builtin; refine wpList_append_push2 (w0 := w1) (wr := w3) rfl _ _ 41 rfl i1 _ 8 Try.underlying41 HI1.out HZ01.out HZ11.out HZ21.out rfl (by decide) hA6.app rfl (((keptTo b.ops ks k).length : Int)) #[.int .i64 ((keptTo b.ops ks k).length : Int)] 3 [] _ rfl (Ext.refl _) ⟨⟨rfl, fits_small (by omega) (by omega)⟩, rfl⟩ (Fr.nil _ _) (by repeat (first | (exact fun _ h => absurd h (List.not_mem_nil)) | (refine List.forall_mem_cons.2 ⟨rfl, ?_⟩))) (by unfold maxLen; rw [HNL.out]; omega) (by rw [HNL.out]; omega) ?_; intro v' w9 xs' hA9 hg9 hb9; have hP6 := FApp.push hA6 hA9 (by simp; omega) hb9; have hap9 := Apart2.left (Apart2.symm hap) hb9 (fun q hq => by have := hA5.lt q hq; simp; omega); rw [← HNS.out] at hP6; obtain ⟨g6, cap6, hv6, hc6, hm6, hl6, hR6⟩ := hP6.app.toRow (by rw [HNL.out]; omega); rw [HNL.out] at hv6; subst hv6)
      clear xb0 xb1 xb2 xb3 xb4 xb5 xb6 yb
      have hA5n := FApp.grownOther (hA5.call ((Ext.refl _).alloc (.cells #[.int .i64 ((keptTo b.ops ks k).length : Int)] 3))) hg9 (fun q hq e => hap q hq e) (fun q hq => hA6.base q hq)
      have he4 : Ext w w9 := he1.trans hA9.ext
      have hs4 : w3.heap.size ≤ w9.heap.size := by have := hg9.size; simp at this; omega
      have hBb_4 : Bx w9 (w.heap.size) [.int .i64 b.pc, .int .i64 b.len, (.slice Ab1 b.ops.length cb1), .int .i64 b.fin, .int .i64 b.x, .int .i64 b.y, .int .i64 b.k] := (Bx.alloc hBb_3 (by omega) #[.int .i64 ((keptTo b.ops ks k).length : Int)] 3).grown hg9 (by simp; omega) (hA6.ne (by omega))
      have hFb_4 : ∀ oo, w9.frozen? ⟨w.heap.size, oo, none⟩ = false := fz_grown (fz_alloc hFb_3 (by omega) (.cells #[.int .i64 ((keptTo b.ops ks k).length : Int)] 3)) hg9 (by simp; omega) (hA6.ne (by omega))
      have hBres_4 : Bx w9 (w.heap.size + 1) [.int .i64 0, .int .i64 0, .slice none 0 0, .int .i64 0, .int .i64 0, .int .i64 0, .int .i64 0] := (Bx.alloc hBres_3 (by omega) #[.int .i64 ((keptTo b.ops ks k).length : Int)] 3).grown hg9 (by simp; omega) (hA6.ne (by omega))
      have hFres_4 : ∀ oo, w9.frozen? ⟨w.heap.size + 1, oo, none⟩ = false := fz_grown (fz_alloc hFres_3 (by omega) (.cells #[.int .i64 ((keptTo b.ops ks k).length : Int)] 3)) hg9 (by simp; omega) (hA6.ne (by omega))
      clear hBb_3 hFb_3 hBres_3 hFres_3
      clear hA5 hA6 hap hA9 hg9 hb9
      obtain ⟨w4, hw9⟩ : ∃ w4 : World, w4 = w9 := ⟨_, rfl⟩
      subst hw9
      obtain ⟨bq2, offq2, rfl, hbq2, eq2⟩ := at_Bool (hkk.ext he4) (i := k) (by omega)
      cases hkq : ks[k]
      · 
        rw [hkq] at eq2
        have HN := hide (keptTo_no b.ops ks k (by rw [gB_at _ _ (by omega)]; exact hkq))
        go_wp2_with fail
        go_roundw
        case rel => exact ⟨k + 1, A5, some ⟨g6, 0, none⟩, c5, cap6, Fs, Gs ++ [[]], xs, xs', by omega, by go_num, by rw [HN.out], rfl, by rw [HN.out, keptRen_succ hok ks k hlt]; exact hA5n, hP6, by rw [HN.out]; exact hap9.symm, he4, by omega, hBb_4, hFb_4, hBres_4, hFres_4⟩
        case measure => (simp [intOf]; try omega)
      · 
        rw [hkq] at eq2
        have HN := hide (keptTo_yes b.ops ks k hlt (by rw [gB_at _ _ (by omega)]; exact hkq))
        obtain ⟨bb, off, rfl, hbo, hk0, e0, e1, e2, e3, e4⟩ := at_IrOp (h.ext he4) hlt
        have KD := op_kind (ok_ops hok k hlt)
        have HB := ok_below hok k hlt
        have yb : w.heap.size < w4.heap.size := by omega
        have xb0 := hBb_4 0 _ rfl
        have xb1 := hBb_4 1 _ rfl
        have xb2 := hBb_4 2 _ rfl
        have xb3 := hBb_4 3 _ rfl
        have xb4 := hBb_4 4 _ rfl
        have xb5 := hBb_4 5 _ rfl
        have xb6 := hBb_4 6 _ rfl
        go_wp2_with fail
        clear xb0 xb1 xb2 xb3 xb4 xb5 xb6 yb
        have hSl6 := hR6.sl (n := k + 1) (c := cap6) (by rw [HNL.out]) hc6 hm6
        refine (l10Alias_any b.ops[k] (namesTo b.ops ks (k + 1)) _ _ hSl6 KD.1 KD.2 (fun q => by have := HB.1 q; rw [HNL.out]; omega) (fun q => by have := HB.2 q; rw [HNL.out]; omega)).mono ?_
        rintro e w5 ⟨rfl, hy⟩
        have hx5 : Ext w4 w5 := Ext.trans (Ext.auto) hy
        have hs5 := hx5.size
        have he5 : Ext w w5 := he4.trans hx5
        have hBb_5 : Bx w5 (w.heap.size) [.int .i64 b.pc, .int .i64 b.len, (.slice (some ⟨bb, off, none⟩) b.ops.length cb1), .int .i64 b.fin, .int .i64 b.x, .int .i64 b.y, .int .i64 b.k] := hx5.bx hBb_4 (by omega)
        have hFb_5 : ∀ oo, w5.frozen? ⟨w.heap.size, oo, none⟩ = false := fun oo => (hx5.frozen (by omega)).trans (hFb_4 oo)
        have hBres_5 : Bx w5 (w.heap.size + 1) [.int .i64 0, .int .i64 0, .slice none 0 0, .int .i64 0, .int .i64 0, .int .i64 0, .int .i64 0] := hx5.bx hBres_4 (by omega)
        have hFres_5 : ∀ oo, w5.frozen? ⟨w.heap.size + 1, oo, none⟩ = false := fun oo => (hx5.frozen (by omega)).trans (hFres_4 oo)
        clear hBb_4 hFb_4 hBres_4 hFres_4
        have hA5q := hA5n.call hy
        have hA6q := hP6.call hy
        clear hy hA5n hP6 hSl6 hR6 e0 e1 e2 e3 e4 hbo
        have hRok := ren_ok (namesTo b.ops ks (k + 1)) b.ops[k] hk0 (fun n hn => by have := namesTo_mem b.ops ks (k + 1) n hn; exact fits_small (by omega) (by omega))
        go_wp2_with (at_builtin; refine wpList_append_push2 (w0 := w1) (wr := w5) rfl _ _ 23 rfl i0 _ 40 Try.underlying23 HI0.out HZ00.out HZ10.out HZ20.out rfl (by decide) hA5q.app rfl (ren (namesTo b.ops ks (k + 1)) b.ops[k]) #[.int .i64 ((ren (namesTo b.ops ks (k + 1)) b.ops[k]).kind), .int .i64 ((ren (namesTo b.ops ks (k + 1)) b.ops[k]).x), .int .i64 ((ren (namesTo b.ops ks (k + 1)) b.ops[k]).y), .int .i64 ((ren (namesTo b.ops ks (k + 1)) b.ops[k]).k), .int .i64 ((ren (namesTo b.ops ks (k + 1)) b.ops[k]).at_)] 58 [] _ rfl (Ext.refl _) ⟨rfl, hRok, rfl⟩ (Fr.nil _ _) (by repeat (first | (exact fun _ h => absurd h (List.not_mem_nil)) | (refine List.forall_mem_cons.2 ⟨rfl, ?_⟩))) (by unfold maxLen; rw [List.length_map]; omega) (by rw [List.length_map]; omega) ?_; intro v' w9 xs' hA9 hg9 hb9; have hP5 := FApp.push hA5q hA9 (by simp; omega) hb9; have hap5 := Apart2.left (Apart2.symm hap9) hb9 (fun q hq => by have := hA6q.lt q hq; simp; omega); rw [show ((keptTo b.ops ks (k)).map (ren (namesTo b.ops ks (k)))) ++ [ren (namesTo b.ops ks (k + 1)) b.ops[k]] = ((keptTo b.ops ks (k + 1)).map (ren (namesTo b.ops ks (k + 1)))) by rw [HN.out, List.map_append, keptRen_succ hok ks k hlt]; rfl] at hP5; obtain ⟨g5, cap5, hv5, hc5, hm5, hl5, hR5⟩ := hP5.app.toRow (by rw [HN.out]; simp); rw [List.length_map] at hv5; subst hv5)
        have hA6n := FApp.grownOther (hA6q.call ((Ext.refl _).alloc (.cells #[.int .i64 ((ren (namesTo b.ops ks (k + 1)) b.ops[k]).kind), .int .i64 ((ren (namesTo b.ops ks (k + 1)) b.ops[k]).x), .int .i64 ((ren (namesTo b.ops ks (k + 1)) b.ops[k]).y), .int .i64 ((ren (namesTo b.ops ks (k + 1)) b.ops[k]).k), .int .i64 ((ren (namesTo b.ops ks (k + 1)) b.ops[k]).at_)] 58))) hg9 (fun q hq e => hap9 q hq e) (fun q hq => hA5q.base q hq)
        go_roundw
        have he6 : Ext w w9 := he1.trans hA9.ext
        have hs6 : w5.heap.size ≤ w9.heap.size := by have := hg9.size; simp at this; omega
        have hBb_6 : Bx w9 (w.heap.size) [.int .i64 b.pc, .int .i64 b.len, (.slice (some ⟨bb, off, none⟩) b.ops.length cb1), .int .i64 b.fin, .int .i64 b.x, .int .i64 b.y, .int .i64 b.k] := (Bx.alloc hBb_5 (by omega) #[.int .i64 ((ren (namesTo b.ops ks (k + 1)) b.ops[k]).kind), .int .i64 ((ren (namesTo b.ops ks (k + 1)) b.ops[k]).x), .int .i64 ((ren (namesTo b.ops ks (k + 1)) b.ops[k]).y), .int .i64 ((ren (namesTo b.ops ks (k + 1)) b.ops[k]).k), .int .i64 ((ren (namesTo b.ops ks (k + 1)) b.ops[k]).at_)] 58).grown hg9 (by simp; omega) (hA5q.ne (by omega))
        have hFb_6 : ∀ oo, w9.frozen? ⟨w.heap.size, oo, none⟩ = false := fz_grown (fz_alloc hFb_5 (by omega) (.cells #[.int .i64 ((ren (namesTo b.ops ks (k + 1)) b.ops[k]).kind), .int .i64 ((ren (namesTo b.ops ks (k + 1)) b.ops[k]).x), .int .i64 ((ren (namesTo b.ops ks (k + 1)) b.ops[k]).y), .int .i64 ((ren (namesTo b.ops ks (k + 1)) b.ops[k]).k), .int .i64 ((ren (namesTo b.ops ks (k + 1)) b.ops[k]).at_)] 58)) hg9 (by simp; omega) (hA5q.ne (by omega))
        have hBres_6 : Bx w9 (w.heap.size + 1) [.int .i64 0, .int .i64 0, .slice none 0 0, .int .i64 0, .int .i64 0, .int .i64 0, .int .i64 0] := (Bx.alloc hBres_5 (by omega) #[.int .i64 ((ren (namesTo b.ops ks (k + 1)) b.ops[k]).kind), .int .i64 ((ren (namesTo b.ops ks (k + 1)) b.ops[k]).x), .int .i64 ((ren (namesTo b.ops ks (k + 1)) b.ops[k]).y), .int .i64 ((ren (namesTo b.ops ks (k + 1)) b.ops[k]).k), .int .i64 ((ren (namesTo b.ops ks (k + 1)) b.ops[k]).at_)] 58).grown hg9 (by simp; omega) (hA5q.ne (by omega))
        have hFres_6 : ∀ oo, w9.frozen? ⟨w.heap.size + 1, oo, none⟩ = false := fz_grown (fz_alloc hFres_5 (by omega) (.cells #[.int .i64 ((ren (namesTo b.ops ks (k + 1)) b.ops[k]).kind), .int .i64 ((ren (namesTo b.ops ks (k + 1)) b.ops[k]).x), .int .i64 ((ren (namesTo b.ops ks (k + 1)) b.ops[k]).y), .int .i64 ((ren (namesTo b.ops ks (k + 1)) b.ops[k]).k), .int .i64 ((ren (namesTo b.ops ks (k + 1)) b.ops[k]).at_)] 58)) hg9 (by simp; omega) (hA5q.ne (by omega))
        clear hBb_5 hFb_5 hBres_5 hFres_5
        case rel => exact ⟨k + 1, some ⟨g5, 0, none⟩, some ⟨g6, 0, none⟩, cap5, cap6, Fs ++ [[]], Gs ++ [[]], _, _, by omega, by go_num, rfl, rfl, hP5, hA6n, hap5, he6, by omega, hBb_6, hFb_6, hBres_6, hFres_6⟩
        case measure => (simp [intOf]; try omega)
    · 
      obtain rfl : k = b.ops.length := by omega
      generalize hN : namesTo b.ops ks b.ops.length = N at *
      have hNl : N.length = b.ops.length := by rw [← hN]; exact namesTo_length _ _ _
      have hDB : dropB b ks = renEnd N b ((keptTo b.ops ks b.ops.length).map (ren N)) := by rw [← hN]; rfl
      generalize hK : keptTo b.ops ks b.ops.length = K at *
      have HFE := end_fin (ok_end hok)
      have hX := fun q => end_x (ok_end hok) q
      have hY := fun q => end_y (ok_end hok) q
      have hZ := (Room.of_app hA5.app).down (lo' := w.heap.size) (by omega)
      obtain ⟨F5, ho5, hf5⟩ := hA5.app.done
      obtain ⟨F6, ho6, hf6⟩ := hA6.app.done
      have hS6 := ho6.old hf6
      clear hA5 hA6 hap ho6 hf6 hN hK
      have HC : b.fin = 1 ∨ b.fin = 2 ∨ b.fin = 3 ∨ b.fin = 4 := by omega
      clear HFE
      rcases HC with e | e | e | e
      · 
        have q1 : (b.fin != 1) = false := by rw [e]; rfl
        have q3 : (b.fin == 3) = false := by rw [e]; rfl
        have q4 : (b.fin == 4) = false := by rw [e]; rfl
        have qX : endX b.fin = false := by rw [e]; rfl
        have qY : endY b.fin = false := by rw [e]; rfl
        clear e
        have EX := hide (show (dropB b ks).x = b.x by rw [hDB]; show (if endX b.fin = true then gI N b.x else b.x) = _; rw [qX]; rfl)
        have EY := hide (show (dropB b ks).y = b.y by rw [hDB]; show (if endY b.fin = true then gI N b.y else b.y) = _; rw [qY]; rfl)
        have HDB := hide hDB
        clear hDB hX hY qX qY
        have yb : w.heap.size < w3.heap.size := by omega
        have xb0 := hBb_3 0 _ rfl
        have xb1 := hBb_3 1 _ rfl
        have xb2 := hBb_3 2 _ rfl
        have xb3 := hBb_3 3 _ rfl
        have xb4 := hBb_3 4 _ rfl
        have xb5 := hBb_3 5 _ rfl
        have xb6 := hBb_3 6 _ rfl
        have yres : w.heap.size + 1 < w3.heap.size := by omega
        have xres0 := hBres_3 0 _ rfl
        have xres1 := hBres_3 1 _ rfl
        have xres2 := hBres_3 2 _ rfl
        have xres3 := hBres_3 3 _ rfl
        have xres4 := hBres_3 4 _ rfl
        have xres5 := hBres_3 5 _ rfl
        have xres6 := hBres_3 6 _ rfl
        have fres := hFres_3
        go_wp2
        first
        | refine bodyPost_ret (v := .agg #[.int .i64 b.pc, .int .i64 b.len, (.slice A5 K.length c5), .int .i64 b.fin, .int .i64 b.x, .int .i64 b.y, .int .i64 b.k]) (by simp [results, Try.results119, go_sem, xres0, xres1, xres2, xres3, xres4, xres5, xres6, yres]) rfl ⟨_, F5, by rw [EX.out, EY.out]; rfl, ?_, ?_, ?_, Room.hold hZ⟩
        | refine bodyPost_ret (v := .agg #[.int .i64 b.pc, .int .i64 b.len, (.slice A5 K.length c5), .int .i64 b.fin, .int .i64 b.x, .int .i64 b.y, .int .i64 b.k]) (by simp [results, Try.results119, go_sem, xres0, xres1, xres2, xres3, xres4, xres5, xres6, yres]) rfl ⟨_, by rw [EX.out, EY.out]; rfl, F5, ?_, ?_, ?_, Room.hold hZ⟩
        · rw [HDB.out]
          exact OwnSl.stay ho5 (fun b hb => by
            have q := hf5.2 b hb; have q1 := q.1; have q2 := q.2
            repeat (first | rw [heap_alloc_old _ _ (by first | (simp; done) | (simp; omega))] | rw [heap_set _ _ _ _ (by simp; omega)]))
        · exact hf5.mk1 (by omega) (by first | (simp; done) | (simp; omega))
        · exact (Ext.hold he3)
      · 
        have q1 : (b.fin != 1) = true := by rw [e]; rfl
        have q3 : (b.fin == 3) = false := by rw [e]; rfl
        have q4 : (b.fin == 4) = false := by rw [e]; rfl
        have qX : endX b.fin = true := by rw [e]; rfl
        have qY : endY b.fin = false := by rw [e]; rfl
        clear e
        have ix := hX qX
        have ix0 := ix.1
        have ix1 := ix.2
        have hnx : (b.x).toNat < N.length := by omega
        have EX := hide (show (dropB b ks).x = N[(b.x).toNat] by rw [hDB]; show (if endX b.fin = true then gI N b.x else b.x) = _; rw [qX]; simp [gI, List.getElem?_eq_getElem hnx])
        have EY := hide (show (dropB b ks).y = b.y by rw [hDB]; show (if endY b.fin = true then gI N b.y else b.y) = _; rw [qY]; rfl)
        have HDB := hide hDB
        clear hDB hX hY qX qY
        obtain ⟨bbx, oox, rfl, hbx, hfx, ex⟩ := at_Int hS6 hnx
        have hlx : bbx < w3.heap.size := hbx
        have z0 : (b.x) < (b.ops.length : Int) := by omega
        have yb : w.heap.size < w3.heap.size := by omega
        have xb0 := hBb_3 0 _ rfl
        have xb1 := hBb_3 1 _ rfl
        have xb2 := hBb_3 2 _ rfl
        have xb3 := hBb_3 3 _ rfl
        have xb4 := hBb_3 4 _ rfl
        have xb5 := hBb_3 5 _ rfl
        have xb6 := hBb_3 6 _ rfl
        have yres : w.heap.size + 1 < w3.heap.size := by omega
        have xres0 := hBres_3 0 _ rfl
        have xres1 := hBres_3 1 _ rfl
        have xres2 := hBres_3 2 _ rfl
        have xres3 := hBres_3 3 _ rfl
        have xres4 := hBres_3 4 _ rfl
        have xres5 := hBres_3 5 _ rfl
        have xres6 := hBres_3 6 _ rfl
        have fres := hFres_3
        go_wp2
        first
        | refine bodyPost_ret (v := .agg #[.int .i64 b.pc, .int .i64 b.len, (.slice A5 K.length c5), .int .i64 b.fin, .int .i64 N[(b.x).toNat], .int .i64 b.y, .int .i64 b.k]) (by simp [results, Try.results119, go_sem, xres0, xres1, xres2, xres3, xres4, xres5, xres6, yres]) rfl ⟨_, F5, by rw [EX.out, EY.out]; rfl, ?_, ?_, ?_, Room.hold hZ⟩
        | refine bodyPost_ret (v := .agg #[.int .i64 b.pc, .int .i64 b.len, (.slice A5 K.length c5), .int .i64 b.fin, .int .i64 N[(b.x).toNat], .int .i64 b.y, .int .i64 b.k]) (by simp [results, Try.results119, go_sem, xres0, xres1, xres2, xres3, xres4, xres5, xres6, yres]) rfl ⟨_, by rw [EX.out, EY.out]; rfl, F5, ?_, ?_, ?_, Room.hold hZ⟩
        · rw [HDB.out]
          exact OwnSl.stay ho5 (fun b hb => by
            have q := hf5.2 b hb; have q1 := q.1; have q2 := q.2
            repeat (first | rw [heap_alloc_old _ _ (by first | (simp; done) | (simp; omega))] | rw [heap_set _ _ _ _ (by simp; omega)]))
        · exact hf5.mk1 (by omega) (by first | (simp; done) | (simp; omega))
        · exact (Ext.hold he3)
      · 
        have q1 : (b.fin != 1) = true := by rw [e]; rfl
        have q3 : (b.fin == 3) = true := by rw [e]; rfl
        have q4 : (b.fin == 4) = false := by rw [e]; rfl
        have qX : endX b.fin = true := by rw [e]; rfl
        have qY : endY b.fin = true := by rw [e]; rfl
        clear e
        have ix := hX qX
        have ix0 := ix.1
        have ix1 := ix.2
        have hnx : (b.x).toNat < N.length := by omega
        have EX := hide (show (dropB b ks).x = N[(b.x).toNat] by rw [hDB]; show (if endX b.fin = true then gI N b.x else b.x) = _; rw [qX]; simp [gI, List.getElem?_eq_getElem hnx])
        have iy := hY qY
        have iy0 := iy.1
        have iy1 := iy.2
        have hny : (b.y).toNat < N.length := by omega
        have EY := hide (show (dropB b ks).y = N[(b.y).toNat] by rw [hDB]; show (if endY b.fin = true then gI N b.y else b.y) = _; rw [qY]; simp [gI, List.getElem?_eq_getElem hny])
        have HDB := hide hDB
        clear hDB hX hY qX qY
        obtain ⟨bbx, oox, rfl, hbx, hfx, ex⟩ := at_Int hS6 hnx
        have hlx : bbx < w3.heap.size := hbx
        have z0 : (b.x) < (b.ops.length : Int) := by omega
        obtain ⟨bby, ooy, hbe, hby, hfy, ey⟩ := at_Int hS6 hny
        injection hbe with hbe
        injection hbe with hbe1 hbe2
        subst hbe1 hbe2
        have z2 : (b.y) < (b.ops.length : Int) := by omega
        have yb : w.heap.size < w3.heap.size := by omega
        have xb0 := hBb_3 0 _ rfl
        have xb1 := hBb_3 1 _ rfl
        have xb2 := hBb_3 2 _ rfl
        have xb3 := hBb_3 3 _ rfl
        have xb4 := hBb_3 4 _ rfl
        have xb5 := hBb_3 5 _ rfl
        have xb6 := hBb_3 6 _ rfl
        have yres : w.heap.size + 1 < w3.heap.size := by omega
        have xres0 := hBres_3 0 _ rfl
        have xres1 := hBres_3 1 _ rfl
        have xres2 := hBres_3 2 _ rfl
        have xres3 := hBres_3 3 _ rfl
        have xres4 := hBres_3 4 _ rfl
        have xres5 := hBres_3 5 _ rfl
        have xres6 := hBres_3 6 _ rfl
        have fres := hFres_3
        go_wp2
        first
        | refine bodyPost_ret (v := .agg #[.int .i64 b.pc, .int .i64 b.len, (.slice A5 K.length c5), .int .i64 b.fin, .int .i64 N[(b.x).toNat], .int .i64 N[(b.y).toNat], .int .i64 b.k]) (by simp [results, Try.results119, go_sem, xres0, xres1, xres2, xres3, xres4, xres5, xres6, yres]) rfl ⟨_, F5, by rw [EX.out, EY.out]; rfl, ?_, ?_, ?_, Room.hold hZ⟩
        | refine bodyPost_ret (v := .agg #[.int .i64 b.pc, .int .i64 b.len, (.slice A5 K.length c5), .int .i64 b.fin, .int .i64 N[(b.x).toNat], .int .i64 N[(b.y).toNat], .int .i64 b.k]) (by simp [results, Try.results119, go_sem, xres0, xres1, xres2, xres3, xres4, xres5, xres6, yres]) rfl ⟨_, by rw [EX.out, EY.out]; rfl, F5, ?_, ?_, ?_, Room.hold hZ⟩
        · rw [HDB.out]
          exact OwnSl.stay ho5 (fun b hb => by
            have q := hf5.2 b hb; have q1 := q.1; have q2 := q.2
            repeat (first | rw [heap_alloc_old _ _ (by first | (simp; done) | (simp; omega))] | rw [heap_set _ _ _ _ (by simp; omega)]))
        · exact hf5.mk1 (by omega) (by first | (simp; done) | (simp; omega))
        · exact (Ext.hold he3)
      · 
        have q1 : (b.fin != 1) = true := by rw [e]; rfl
        have q3 : (b.fin == 3) = false := by rw [e]; rfl
        have q4 : (b.fin == 4) = true := by rw [e]; rfl
        have qX : endX b.fin = true := by rw [e]; rfl
        have qY : endY b.fin = true := by rw [e]; rfl
        clear e
        have ix := hX qX
        have ix0 := ix.1
        have ix1 := ix.2
        have hnx : (b.x).toNat < N.length := by omega
        have EX := hide (show (dropB b ks).x = N[(b.x).toNat] by rw [hDB]; show (if endX b.fin = true then gI N b.x else b.x) = _; rw [qX]; simp [gI, List.getElem?_eq_getElem hnx])
        have iy := hY qY
        have iy0 := iy.1
        have iy1 := iy.2
        have hny : (b.y).toNat < N.length := by omega
        have EY := hide (show (dropB b ks).y = N[(b.y).toNat] by rw [hDB]; show (if endY b.fin = true then gI N b.y else b.y) = _; rw [qY]; simp [gI, List.getElem?_eq_getElem hny])
        have HDB := hide hDB
        clear hDB hX hY qX qY
        obtain ⟨bbx, oox, rfl, hbx, hfx, ex⟩ := at_Int hS6 hnx
        have hlx : bbx < w3.heap.size := hbx
        have z0 : (b.x) < (b.ops.length : Int) := by omega
        obtain ⟨bby, ooy, hbe, hby, hfy, ey⟩ := at_Int hS6 hny
        injection hbe with hbe
        injection hbe with hbe1 hbe2
        subst hbe1 hbe2
        have z2 : (b.y) < (b.ops.length : Int) := by omega
        have yb : w.heap.size < w3.heap.size := by omega
        have xb0 := hBb_3 0 _ rfl
        have xb1 := hBb_3 1 _ rfl
        have xb2 := hBb_3 2 _ rfl
        have xb3 := hBb_3 3 _ rfl
        have xb4 := hBb_3 4 _ rfl
        have xb5 := hBb_3 5 _ rfl
        have xb6 := hBb_3 6 _ rfl
        have yres : w.heap.size + 1 < w3.heap.size := by omega
        have xres0 := hBres_3 0 _ rfl
        have xres1 := hBres_3 1 _ rfl
        have xres2 := hBres_3 2 _ rfl
        have xres3 := hBres_3 3 _ rfl
        have xres4 := hBres_3 4 _ rfl
        have xres5 := hBres_3 5 _ rfl
        have xres6 := hBres_3 6 _ rfl
        have fres := hFres_3
        go_wp2
        first
        | refine bodyPost_ret (v := .agg #[.int .i64 b.pc, .int .i64 b.len, (.slice A5 K.length c5), .int .i64 b.fin, .int .i64 N[(b.x).toNat], .int .i64 N[(b.y).toNat], .int .i64 b.k]) (by simp [results, Try.results119, go_sem, xres0, xres1, xres2, xres3, xres4, xres5, xres6, yres]) rfl ⟨_, F5, by rw [EX.out, EY.out]; rfl, ?_, ?_, ?_, Room.hold hZ⟩
        | refine bodyPost_ret (v := .agg #[.int .i64 b.pc, .int .i64 b.len, (.slice A5 K.length c5), .int .i64 b.fin, .int .i64 N[(b.x).toNat], .int .i64 N[(b.y).toNat], .int .i64 b.k]) (by simp [results, Try.results119, go_sem, xres0, xres1, xres2, xres3, xres4, xres5, xres6, yres]) rfl ⟨_, by rw [EX.out, EY.out]; rfl, F5, ?_, ?_, ?_, Room.hold hZ⟩
        · rw [HDB.out]
          exact OwnSl.stay ho5 (fun b hb => by
            have q := hf5.2 b hb; have q1 := q.1; have q2 := q.2
            repeat (first | rw [heap_alloc_old _ _ (by first | (simp; done) | (simp; omega))] | rw [heap_set _ _ _ _ (by simp; omega)]))
        · exact hf5.mk1 (by omega) (by first | (simp; done) | (simp; omega))
        · exact (Ext.hold he3)

theorem l10Drop_any (b : IrBlock) (ks : List Bool) (v vk : Value) (w : World) (h : Sl w (Old w) v b.ops) (hkk : Sl w (Old w) vk ks) (hok : irOkB b = true) (hks : ks.length = b.ops.length) :
    Calls Try.prog 119 #[.agg #[.int .i64 b.pc, .int .i64 b.len, v, .int .i64 b.fin, .int .i64 b.x, .int .i64 b.y, .int .i64 b.k], vk] w fun e w' => ∃ r1 F, e = .returned (.agg #[.int .i64 ((dropB b ks).pc), .int .i64 ((dropB b ks).len), r1, .int .i64 ((dropB b ks).fin), .int .i64 ((dropB b ks).x), .int .i64 ((dropB b ks).y), .int .i64 ((dropB b ks).k)]) ∧ OwnSl w' r1 (dropB b ks).ops F ∧ Fr w w' F ∧ Ext w w' :=
  (l10DropR_any b ks v vk w h hkk hok hks).mono fun e w' ⟨r1, F, h1, h2, h3, h4, _⟩ => ⟨r1, F, h1, h2, h3, h4⟩

end Go.Proofs.Yteaacelfnkiboaa
