/-
  SumP
-/
import Derived.Test.YtmbclopkopfngaaQByteLib
import Derived.Test.YtmbclopkopfngaaQPolS
import Derived.Test.YtmbclopkopfngaaQSumPure
import Derived.Test.YtmbclopkopfngaaQConstW
import Derived.Test.YtmbclopkopfngaaQPolC
import Derived.Deep.DeepCutAuto
namespace Go.Proofs.Ytmbclopkopfngaa
open Go.RowKit

set_option linter.unusedVariables false
set_option linter.unusedSimpArgs false
set_option maxRecDepth 100000

instance : Ones TrmMono where
  ones h u hu := by
    obtain ⟨v1, rfl, _, h3⟩ := h
    obtain ⟨A, c, rfl, _, _⟩ := h3.form
    simp at hu
    rcases hu with rfl | rfl <;> rfl

set_option maxHeartbeats 16000000 in
theorem l4Plus_any (l : List TrmMono) (m : TrmMono) (vl vm1 : Value) (w : World) (hl : Sl w (Old w) vl l) (hm1 : Sl w (Old w) vm1 m.atoms) (hl4 : l.length ≤ 4000) (hkl : ∀ x, x ∈ l → 0 ≤ x.coef ∧ x.coef ≤ 65535) (hkm : 0 ≤ m.coef ∧ m.coef ≤ 65535) :
    Calls Try.prog 78 #[vl, .agg #[.int .i64 m.coef, vm1]] w fun e w' => (∃ r, e = .returned r ∧ Sl w' (Old w') r (plusL l m)) ∧ Ext w w' := by
  obtain ⟨Al, cl, rfl, hll, hml⟩ := hl.form
  obtain ⟨Am1, cm1, rfl, hlm1, hmm1⟩ := hm1.form
  unfold maxLen at hml hmm1
  have hkm0 := hkm.1
  have hkm1 := hkm.2
  clear hkm
  have HM := hide (show m.Ok by show Fits m.coef; unfold Fits; omega)
  obtain ⟨i0a, hi_, hz0, hz1, hz2⟩ := info_parts infTrmMono
  have HIa := hide hi_
  have HZ0a := hide hz0
  have HZ1a := hide hz1
  have HZ2a := hide hz2
  clear hi_ hz0 hz1 hz2
  go_enter Try.func78, Try.ntmps78
  go_upto_region 1 with fail
  have he0 : Ext w (w.alloc (Obj.cells #[.int .i64 m.coef, (.slice Am1 m.atoms.length cm1)] 79)) := (Ext.auto)
  have hs0 : w.heap.size + 1 ≤ ((w.alloc (Obj.cells #[.int .i64 m.coef, (.slice Am1 m.atoms.length cm1)] 79))).heap.size := by simp
  have hq0 := hide (show ((w.alloc (Obj.cells #[.int .i64 m.coef, (.slice Am1 m.atoms.length cm1)] 79))).heap.size = w.heap.size + 1 by simp)
  have hBm_0 : Bx (w.alloc (Obj.cells #[.int .i64 m.coef, (.slice Am1 m.atoms.length cm1)] 79)) (w.heap.size) [.int .i64 m.coef, (.slice Am1 m.atoms.length cm1)] := (by have := (Bx.new w #[.int .i64 m.coef, (.slice Am1 m.atoms.length cm1)] 79); simpa using this)
  have hFm_0 : ∀ oo, ((w.alloc (Obj.cells #[.int .i64 m.coef, (.slice Am1 m.atoms.length cm1)] 79))).frozen? ⟨w.heap.size, oo, none⟩ = false := fun oo => by simp
  generalize (w.alloc (Obj.cells #[.int .i64 m.coef, (.slice Am1 m.atoms.length cm1)] 79)) = w0 at *
  go_upto_region 2 with fail
  have hA0_ : App w0 (w0.alloc (.cells #[] 79)) 79 (.slice (some ⟨w0.heap.size, 0, none⟩) 0 0) ([] : List (Raw 1)) [] [] := App.emptyAt w0 79 _ rfl
  have he1 : Ext w (w0.alloc (.cells #[] 79)) := Ext.hold he0
  have hx1 : Ext w0 (w0.alloc (.cells #[] 79)) := Ext.auto
  have hs1 : w0.heap.size + 1 ≤ ((w0.alloc (.cells #[] 79))).heap.size := by simp
  have hBm_1 : Bx (w0.alloc (.cells #[] 79)) (w.heap.size) [.int .i64 m.coef, (.slice Am1 m.atoms.length cm1)] := Bx.hold hBm_0
  have hFm_1 : ∀ oo, (w0.alloc (.cells #[] 79)).frozen? ⟨w.heap.size, oo, none⟩ = false := fz_hold hFm_0
  generalize (w0.alloc (.cells #[] 79)) = w1 at *
  clear hBm_0 hFm_0
  have hl0 := hl.ext he0
  have hm0 := hm1.ext he0
  have hrm : Rep.rep w0 (Old w0) [.int .i64 m.coef, .slice Am1 m.atoms.length cm1] m := ⟨_, rfl, HM.out, hm0⟩
  go_wp2
  go_loopw [5, 6, 7] (fun v5 u i wz => ∃ (k : Nat) (d : Bool) (v : Value) (Q : List TrmMono) (R : List (Raw 1)) (Fs : List (List Nat)) (xs : List Value), v5 = v ∧ k ≤ l.length ∧ i = .int .i64 k ∧ u = .bool d ∧ Hid (plusL l m = Q ++ plusGo m d (l.drop k)) ∧ App w0 wz 79 v R Fs xs ∧ RawOf w0 (Old w0) Q R ∧ Bx wz (w.heap.size) [.int .i64 m.coef, .slice Am1 m.atoms.length cm1] ∧ Q.length ≤ 2 * k) (fun _ _ i _ => l.length - (intOf i).toNat)
  case atStart => exact ⟨0, false, _, [], [], [], [], rfl, by omega, rfl, rfl, hide rfl, hA0_, RawOf.nil _ _, hBm_1, by simp⟩
  case round =>
    clear hA0_ hBm_1 hFm_1 hl hm1
    obtain ⟨w2, hwr⟩ : ∃ w2 : World, w2 = wr := ⟨_, rfl⟩
    subst hwr
    obtain ⟨k, d, v, Q, R, Fs, xs, rfl, hk, rfl, rfl, HP, hA, hQ, hBm, hQn⟩ := hrel
    obtain ⟨F7, hO7, -⟩ := hA.done
    obtain ⟨A7, c7, rfl, -, -⟩ := hO7.sl.form
    clear hO7 F7
    have hRl : R.length ≤ 2 * k := by rw [hQ.1]; exact hQn
    have hx2 : Ext w0 w2 := hA.ext
    have hs2 := hx2.size
    have ym : w.heap.size < w2.heap.size := by omega
    by_cases hlt : k < l.length
    · 
      obtain ⟨b, off, va, rfl, hbo, hk0, hva, e0, e1⟩ := at_TrmMono hl0 hlt
      obtain ⟨Ava, cva, rfl, -, -⟩ := hva.form
      have hbo0 : b < w0.heap.size := hbo
      replace e0 := (hx2.cell hbo0).trans e0
      replace e1 := (hx2.cell hbo0).trans e1
      have hbo2 : b < w2.heap.size := by omega
      have z0 : (0 : Int) ≤ (k : Int) := by omega
      have z1 : (k : Int) < (l.length : Int) := by omega
      have HD := hide (show l.drop k = l[k] :: l.drop (k + 1) from List.drop_eq_getElem_cons hlt)
      have hkx := hkl l[k] (List.getElem_mem hlt)
      have hkx0 := hkx.1
      have hkx1 := hkx.2
      clear hkx
      have hrx : Rep.rep w0 (Old w0) [.int .i64 l[k].coef, .slice Ava l[k].atoms.length cva] l[k] := ⟨_, rfl, hk0, hva⟩
      have xm0 := hBm 0 _ rfl
      have xm1 := hBm 1 _ rfl
      go_upto_region 6 with fail
      have hS : ∀ w', Ext w2 w' → ∀ bb oo, bb < w2.heap.size → w'.cell? ⟨bb, oo, none⟩ = w2.cell? ⟨bb, oo, none⟩ := fun w' hx bb oo hb => hx.cell hb
      refine wp_region_plan (fun w' => Ext w2 w') 7 (.float 0 (.float 1 (.float 2 (.float 3 (.float 4 (.float 5 (.float 6 (.tail 7)))))))) (by kernel_rfl) (by kernel_rfl) (Ext.refl _).drew ?_
      iterate 7 ((refine Plan.float_step (v := ?_) rfl (by rfl) (fun _ _ _ h => h) (fun w' hSw => ?_) ?_; rotate_left; · (go_simp; try with_reducible rfl)); (try simp only [Act.put, List.setIfInBounds_toArray, List.set_cons_zero, List.set_cons_succ]))
      refine Plan.tail_step ?_
      simp only [List.drop_succ_cons, List.drop_zero]
      clear hS
      go_wp2_with fail
      refine (l4Order_any m.atoms l[k].atoms _ _ _ (hm0.ext (hx2.trans Ext.auto)) (hva.ext (hx2.trans Ext.auto))).mono ?_
      rintro e w3 ⟨rfl, hy⟩
      have hx3 : Ext w2 w3 := Ext.trans Ext.auto hy
      clear hy
      have hs3 := hx3.size
      replace hA := hA.call hx3
      replace hBm := hx3.bx hBm ym
      replace ym : w.heap.size < w3.heap.size := by omega
      replace e0 := (hx3.cell hbo2).trans e0
      replace e1 := (hx3.cell hbo2).trans e1
      replace hbo2 : b < w3.heap.size := by omega
      have HPG := hide (show plusL l m = Q ++ ((if !d && decide (atomsOrd m.atoms l[k].atoms < 0) then [m] else []) ++ ((if atomsOrd m.atoms l[k].atoms = 0 then (if 0 < (l[k].coef + m.coef) % 65536 then [⟨(l[k].coef + m.coef) % 65536, l[k].atoms⟩] else []) else [l[k]]) ++ plusGo m (d || decide (atomsOrd m.atoms l[k].atoms < 0) || decide (atomsOrd m.atoms l[k].atoms = 0)) (l.drop (k + 1)))) by rw [HP.out, HD.out, plusGo]; simp only [List.append_assoc])
      clear HP HD xm0 xm1 hx3 hx2 hs2
      generalize atomsOrd m.atoms l[k].atoms = o at *
      go_upto_region 7 with fail
      go_cut [30] (fun v wx => v = .bool (!d && decide (o < 0)) ∧ w3 = wx)
      · cases d
        all_goals
          go_wp2_with fail
          go_meet
          exact ⟨by simp, rfl⟩
      obtain ⟨rfl, hwc⟩ := hcut
      subst hwc
      go_upto_if 30 with fail
      go_cut [5, 6] (fun v5 u wx => ∃ (d2 : Bool) (v : Value) (Q : List TrmMono) (R : List (Raw 1)) (Fs : List (List Nat)) (xs : List Value), v5 = v ∧ u = .bool d2 ∧ Ext w0 wx ∧ w3.heap.size ≤ wx.heap.size ∧ wx.cell? ⟨b, off + k * 2, none⟩ = some (.int .i64 l[k].coef) ∧ wx.cell? ⟨b, off + k * 2 + 1, none⟩ = some (.slice Ava l[k].atoms.length cva) ∧ Hid (plusL l m = Q ++ ((if o = 0 then (if 0 < (l[k].coef + m.coef) % 65536 then [⟨(l[k].coef + m.coef) % 65536, l[k].atoms⟩] else []) else [l[k]]) ++ plusGo m (d2 || decide (o = 0)) (l.drop (k + 1)))) ∧ App w0 wx 79 v R Fs xs ∧ RawOf w0 (Old w0) Q R ∧ Bx wx (w.heap.size) [.int .i64 m.coef, .slice Am1 m.atoms.length cm1] ∧ Q.length ≤ 2 * k + 1)
      · 
        cases hb1 : (!d && decide (o < 0))
        · 
          have HP2 := hide (show plusL l m = Q ++ ((if o = 0 then (if 0 < (l[k].coef + m.coef) % 65536 then [⟨(l[k].coef + m.coef) % 65536, l[k].atoms⟩] else []) else [l[k]]) ++ plusGo m (d || decide (o = 0)) (l.drop (k + 1))) by rw [HPG.out, hb1, show (d || decide (o < 0)) = d by revert hb1; cases d <;> simp]; rfl)
          go_wp2_with fail
          go_meet
          exact ⟨d, _, Q, R, Fs, xs, rfl, rfl, hA.ext, Nat.le_refl _, e0, e1, HP2, hA, hQ, hBm, by omega⟩
        · 
          have hb1' : d = false ∧ o < 0 := by revert hb1; cases d <;> simp
          obtain ⟨rfl, ho⟩ := hb1'
          have HP2 := hide (show plusL l m = (Q ++ [m]) ++ ((if o = 0 then (if 0 < (l[k].coef + m.coef) % 65536 then [⟨(l[k].coef + m.coef) % 65536, l[k].atoms⟩] else []) else [l[k]]) ++ plusGo m (true || decide (o = 0)) (l.drop (k + 1))) by rw [HPG.out]; simp [ho])
          clear hb1 HPG
          have xm0 := hBm 0 _ rfl
          have xm1 := hBm 1 _ rfl
          go_upto_region 9 with (
              at_builtin; refine wpList_append_push2 (w0 := w0) (wr := w3) rfl _ _ 26 rfl i0a _ 32 Try.underlying26 HIa.out HZ0a.out HZ1a.out HZ2a.out rfl (by decide) hA rfl (⟨[.int .i64 m.coef, .slice Am1 m.atoms.length cm1], rfl, (by repeat (first | (exact fun _ h => absurd h (List.not_mem_nil)) | (refine List.forall_mem_cons.2 ⟨rfl, ?_⟩)))⟩ : Raw 1) #[.int .i64 m.coef, .slice Am1 m.atoms.length cm1] 79 [] _ rfl Ext.auto ⟨rfl, rfl⟩ (Fr.nil _ _) (by repeat (first | (exact fun _ h => absurd h (List.not_mem_nil)) | (refine List.forall_mem_cons.2 ⟨rfl, ?_⟩))) (by unfold maxLen; omega) (by omega) ?_
              intro v' wq9 xs' hA9 hg9 hb9
              have hz9 := hg9.size
              have hsz9 : w3.heap.size ≤ wq9.heap.size := by simp at hz9; omega
              have hown9 : ∀ b_, b_ < w0.heap.size → some b_ ≠ Value.ownBlock (.slice A7 R.length c7) := fun b_ hb_ q => by have := (hA.row.lt b_ q.symm).1; omega)
          have hBm9 : Bx wq9 (w.heap.size) [.int .i64 m.coef, .slice Am1 m.atoms.length cm1] := (show Bx (w3.alloc (.cells #[.int .i64 m.coef, .slice Am1 m.atoms.length cm1] 79)) _ _ from Bx.alloc hBm (by omega) _ _).grown hg9 (by simp; omega) (hown9 _ (by omega))
          have hcb9 : ∀ oo, wq9.cell? ⟨b, oo, none⟩ = w3.cell? ⟨b, oo, none⟩ := fun oo => (World.cell?_of_block (w := (w3.alloc (.cells #[.int .i64 m.coef, .slice Am1 m.atoms.length cm1] 79))) (hg9.block b (by simp; omega) (hown9 _ (by omega)))).trans (World.cell?_alloc_lt _ _ _ (by omega))
          go_wp2_with fail
          go_meet
          exact ⟨true, _, Q ++ [m], _, _, _, rfl, rfl, hA9.ext, hsz9, (hcb9 _).trans e0, (hcb9 _).trans e1, HP2, hA9, hQ.snoc hrm, hBm9, by simp; omega⟩
      clear hA hQ hBm HPG e0 e1
      obtain ⟨w4, hwc⟩ : ∃ w4 : World, w4 = wc := ⟨_, rfl⟩
      subst hwc
      clear hQn hRl
      obtain ⟨d2, v, Q, R, Fs, xs, rfl, rfl, hx4, hs4, e0, e1, HP, hA, hQ, hBm, hQn⟩ := hcut
      obtain ⟨F7, hO7, -⟩ := hA.done
      obtain ⟨A7, c7, rfl, -, -⟩ := hO7.sl.form
      clear hO7 F7
      have hRl : R.length ≤ 2 * k + 1 := by rw [hQ.1]; exact hQn
      have hbo4 : b < w4.heap.size := by omega
      have ym4 : w.heap.size < w4.heap.size := by omega
      have xm0 := hBm 0 _ rfl
      have xm1 := hBm 1 _ rfl
      by_cases h0 : o = 0
      · 
        have q0 : (o == 0) = true := by simp [h0]
        have HV := hide h0
        clear h0
        have zs0 : -4294967296 ≤ l[k].coef + m.coef := by omega
        have zs1 : l[k].coef + m.coef ≤ 4294967296 := by omega
        have zw : IntKind.i64.wrap (l[k].coef + m.coef) = l[k].coef + m.coef := by rw [IntKind.wrap_i64]; omega
        go_upto_region 12 with fail
        have hS : ∀ w', Ext w4 w' → ∀ bb oo, bb < w4.heap.size → w'.cell? ⟨bb, oo, none⟩ = w4.cell? ⟨bb, oo, none⟩ := fun w' hx bb oo hb => hx.cell hb
        refine wp_region_plan (fun w' => Ext w4 w') 7 (.float 0 (.float 1 (.float 2 (.float 3 (.float 4 (.float 5 (.float 6 (.tail 7)))))))) (by kernel_rfl) (by kernel_rfl) (Ext.refl _).drew ?_
        iterate 7 ((refine Plan.float_step (v := ?_) rfl (by rfl) (fun _ _ _ h => h) (fun w' hSw => ?_) ?_; rotate_left; · (go_simp; try with_reducible rfl)); (try simp only [Act.put, List.setIfInBounds_toArray, List.set_cons_zero, List.set_cons_succ]))
        refine Plan.tail_step ?_
        simp only [List.drop_succ_cons, List.drop_zero]
        clear hS
        go_wp2_with fail
        refine (specWrap_any (l[k].coef + m.coef) zs0 zs1 _).mono ?_
        rintro e w' ⟨rfl, rfl⟩
        have hd5 : Ext w4 w4.drew := (Ext.refl _).drew
        replace hA := hA.call hd5
        replace hBm := hd5.bx hBm ym4
        replace e0 := (hd5.cell hbo4).trans e0
        replace e1 := (hd5.cell hbo4).trans e1
        replace hbo4 : b < w4.drew.heap.size := hbo4
        replace ym4 : w.heap.size < w4.drew.heap.size := ym4
        replace hs4 : w3.heap.size ≤ w4.drew.heap.size := hs4
        clear xm0 xm1 hd5 hx4
        generalize w4.drew = w5 at *
        have hn0 : 0 ≤ (l[k].coef + m.coef) % 65536 := by omega
        have hn1 : (l[k].coef + m.coef) % 65536 < 65536 := by omega
        rw [show (if o = 0 then (if 0 < (l[k].coef + m.coef) % 65536 then [(⟨(l[k].coef + m.coef) % 65536, l[k].atoms⟩ : TrmMono)] else []) else [l[k]]) = (if 0 < (l[k].coef + m.coef) % 65536 then [(⟨(l[k].coef + m.coef) % 65536, l[k].atoms⟩ : TrmMono)] else []) from if_pos HV.out, show (d2 || decide (o = 0)) = true by rw [decide_eq_true HV.out]; simp] at HP
        generalize (l[k].coef + m.coef) % 65536 = n at *
        clear zs0 zs1 zw
        by_cases hn : 0 < n
        · 
          have q1 : decide (0 < n) = true := decide_eq_true hn
          have HP2 := hide (show plusL l m = (Q ++ [⟨n, l[k].atoms⟩]) ++ plusGo m true (l.drop (k + 1)) by rw [HP.out, if_pos hn, List.append_assoc])
          clear HP hn
          have hrn : Rep.rep w0 (Old w0) [.int .i64 n, .slice Ava l[k].atoms.length cva] (⟨n, l[k].atoms⟩ : TrmMono) := ⟨_, rfl, by show Fits n; unfold Fits; omega, hva⟩
          go_upto_region 5 with (
              at_builtin; refine wpList_append_push2 (w0 := w0) (wr := w5) rfl _ _ 26 rfl i0a _ 32 Try.underlying26 HIa.out HZ0a.out HZ1a.out HZ2a.out rfl (by decide) hA rfl (⟨[.int .i64 n, .slice Ava l[k].atoms.length cva], rfl, (by repeat (first | (exact fun _ h => absurd h (List.not_mem_nil)) | (refine List.forall_mem_cons.2 ⟨rfl, ?_⟩)))⟩ : Raw 1) #[.int .i64 n, .slice Ava l[k].atoms.length cva] 79 [] _ rfl Ext.auto ⟨rfl, rfl⟩ (Fr.nil _ _) (by repeat (first | (exact fun _ h => absurd h (List.not_mem_nil)) | (refine List.forall_mem_cons.2 ⟨rfl, ?_⟩))) (by unfold maxLen; omega) (by omega) ?_
              intro v' wq9 xs' hA9 hg9 hb9
              have hz9 := hg9.size
              have hsz9 : w5.heap.size ≤ wq9.heap.size := by simp at hz9; omega
              have hown9 : ∀ b_, b_ < w0.heap.size → some b_ ≠ Value.ownBlock (.slice A7 R.length c7) := fun b_ hb_ q => by have := (hA.row.lt b_ q.symm).1; omega)
          have hBm9 : Bx wq9 (w.heap.size) [.int .i64 m.coef, .slice Am1 m.atoms.length cm1] := (show Bx (w5.alloc (.cells #[.int .i64 n, .slice Ava l[k].atoms.length cva] 79)) _ _ from Bx.alloc hBm (by omega) _ _).grown hg9 (by simp; omega) (hown9 _ (by omega))
          have hcb9 : ∀ oo, wq9.cell? ⟨b, oo, none⟩ = w5.cell? ⟨b, oo, none⟩ := fun oo => (World.cell?_of_block (w := (w5.alloc (.cells #[.int .i64 n, .slice Ava l[k].atoms.length cva] 79))) (hg9.block b (by simp; omega) (hown9 _ (by omega)))).trans (World.cell?_alloc_lt _ _ _ (by omega))
          go_wp2_with fail
          go_roundw
          case rel => exact ⟨k + 1, true, _, Q ++ [⟨n, l[k].atoms⟩], _, _, _, rfl, by omega, by go_num, rfl, HP2, hA9, hQ.snoc hrn, hBm9, by simp; omega⟩
          case measure => simp [intOf]; omega
        · 
          have q1 : decide (0 < n) = false := decide_eq_false hn
          have HP2 := hide (show plusL l m = Q ++ plusGo m true (l.drop (k + 1)) by rw [HP.out, if_neg hn]; rfl)
          clear HP hn
          go_wp2_with fail
          go_roundw
          case rel => exact ⟨k + 1, true, _, Q, _, _, _, rfl, by omega, by go_num, rfl, HP2, hA, hQ, hBm, by omega⟩
          case measure => simp [intOf]; omega
      · 
        have q0 : (o == 0) = false := by simp [h0]
        have HP2 := hide (show plusL l m = (Q ++ [l[k]]) ++ plusGo m d2 (l.drop (k + 1)) by rw [HP.out, if_neg h0, decide_eq_false h0, Bool.or_false, List.append_assoc])
        clear HP h0
        go_upto_region 5 with (
            at_builtin; refine wpList_append_push2 (w0 := w0) (wr := w4) rfl _ _ 26 rfl i0a _ 32 Try.underlying26 HIa.out HZ0a.out HZ1a.out HZ2a.out rfl (by decide) hA rfl (⟨[.int .i64 l[k].coef, .slice Ava l[k].atoms.length cva], rfl, (by repeat (first | (exact fun _ h => absurd h (List.not_mem_nil)) | (refine List.forall_mem_cons.2 ⟨rfl, ?_⟩)))⟩ : Raw 1) #[.int .i64 l[k].coef, .slice Ava l[k].atoms.length cva] 79 [] _ rfl Ext.auto ⟨rfl, rfl⟩ (Fr.nil _ _) (by repeat (first | (exact fun _ h => absurd h (List.not_mem_nil)) | (refine List.forall_mem_cons.2 ⟨rfl, ?_⟩))) (by unfold maxLen; omega) (by omega) ?_
            intro v' wq9 xs' hA9 hg9 hb9
            have hz9 := hg9.size
            have hsz9 : w4.heap.size ≤ wq9.heap.size := by simp at hz9; omega
            have hown9 : ∀ b_, b_ < w0.heap.size → some b_ ≠ Value.ownBlock (.slice A7 R.length c7) := fun b_ hb_ q => by have := (hA.row.lt b_ q.symm).1; omega)
        have hBm9 : Bx wq9 (w.heap.size) [.int .i64 m.coef, .slice Am1 m.atoms.length cm1] := (show Bx (w4.alloc (.cells #[.int .i64 l[k].coef, .slice Ava l[k].atoms.length cva] 79)) _ _ from Bx.alloc hBm (by omega) _ _).grown hg9 (by simp; omega) (hown9 _ (by omega))
        have hcb9 : ∀ oo, wq9.cell? ⟨b, oo, none⟩ = w4.cell? ⟨b, oo, none⟩ := fun oo => (World.cell?_of_block (w := (w4.alloc (.cells #[.int .i64 l[k].coef, .slice Ava l[k].atoms.length cva] 79))) (hg9.block b (by simp; omega) (hown9 _ (by omega)))).trans (World.cell?_alloc_lt _ _ _ (by omega))
        go_wp2_with fail
        go_roundw
        case rel => exact ⟨k + 1, d2, _, Q ++ [l[k]], _, _, _, rfl, by omega, by go_num, rfl, HP2, hA9, hQ.snoc hrx, hBm9, by simp; omega⟩
        case measure => simp [intOf]; omega
    · 
      obtain rfl : k = l.length := by omega
      rw [List.drop_length] at HP
      have xm0 := hBm 0 _ rfl
      have xm1 := hBm 1 _ rfl
      cases d
      · 
        have HP2 := hide (show plusL l m = Q ++ [m] from HP.out)
        go_upto_region 18 with (
            at_builtin; refine wpList_append_push2 (w0 := w0) (wr := w2) rfl _ _ 26 rfl i0a _ 32 Try.underlying26 HIa.out HZ0a.out HZ1a.out HZ2a.out rfl (by decide) hA rfl (⟨[.int .i64 m.coef, .slice Am1 m.atoms.length cm1], rfl, (by repeat (first | (exact fun _ h => absurd h (List.not_mem_nil)) | (refine List.forall_mem_cons.2 ⟨rfl, ?_⟩)))⟩ : Raw 1) #[.int .i64 m.coef, .slice Am1 m.atoms.length cm1] 79 [] _ rfl Ext.auto ⟨rfl, rfl⟩ (Fr.nil _ _) (by repeat (first | (exact fun _ h => absurd h (List.not_mem_nil)) | (refine List.forall_mem_cons.2 ⟨rfl, ?_⟩))) (by unfold maxLen; omega) (by omega) ?_
            intro v' wq9 xs' hA9 hg9 hb9)
        obtain ⟨F9, hO9, hF9⟩ := hA9.done
        go_wp2
        go_ret
        exact ⟨⟨_, rfl, by rw [HP2.out]; exact Sl.of_raw rfl (hO9.old hF9) ((hQ.snoc hrm).keep (Ext.old hA9.ext) (Ext.oldIn hA9.ext))⟩, he0.trans hA9.ext⟩
      · 
        have HP2 := hide (show plusL l m = Q by rw [HP.out]; simp [plusGo])
        obtain ⟨F9, hO9, hF9⟩ := hA.done
        go_wp2
        go_ret
        exact ⟨⟨_, rfl, by rw [HP2.out]; exact Sl.of_raw rfl (hO9.old hF9) (hQ.keep (Ext.old hA.ext) (Ext.oldIn hA.ext))⟩, he0.trans hA.ext⟩

end Go.Proofs.Ytmbclopkopfngaa
