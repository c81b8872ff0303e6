/-
  TabC
-/
import Derived.Test.YtmbclopkopfngaaQPolC
import Derived.Deep.DeepCutAuto
namespace Go.Proofs.Ytmbclopkopfngaa
open Go.RowKit

set_option linter.unusedVariables false
set_option linter.unusedSimpArgs false
set_option maxRecDepth 100000

set_option maxHeartbeats 8000000 in
theorem l5Twin_any (a : TabAtom) (va1 va2 : Value) (w : World) (ha1 : Sl w (Old w) va1 a.x.monos) (ha2 : Sl w (Old w) va2 a.y.monos) (hn : Bulk.blk a ≤ 4194304) :
    Calls Try.prog 58 #[.agg #[.int .i64 a.kind, .int .i64 a.k, va1, va2]] w fun e w' => ∃ r1 r2 F1 F2, e = .returned (.agg #[.int .i64 a.kind, .int .i64 a.k, r1, r2]) ∧ OwnSl w' r1 a.x.monos F1 ∧ OwnSl w' r2 a.y.monos F2 ∧ Fr w w' (F1 ++ F2) ∧ Ext w w' := by
  obtain ⟨Aa1, ca1, rfl, hla1, hma1⟩ := ha1.form
  obtain ⟨Aa2, ca2, rfl, hla2, hma2⟩ := ha2.form
  unfold maxLen at hma1 hma2
  have hba : Bulk.blk a = Bulk.blk a.x.monos + Bulk.blk a.y.monos := rfl
  have hb1_ : Bulk.blk a.x.monos ≤ 4194304 := by omega
  have hb2_ : Bulk.blk a.y.monos ≤ 4194304 := by omega
  clear hba hn
  go_enter Try.func58, Try.ntmps58
  go_upto_region 1 with fail
  have he0 : Ext w ((w.alloc (Obj.cells #[.int .i64 a.kind, .int .i64 a.k, (.slice Aa1 a.x.monos.length ca1), (.slice Aa2 a.y.monos.length ca2)] 30)).alloc (Obj.cells #[.int .i64 0, .int .i64 0, .slice none 0 0, .slice none 0 0] 30)) := (Ext.auto)
  have hs0 : w.heap.size + 2 ≤ (((w.alloc (Obj.cells #[.int .i64 a.kind, .int .i64 a.k, (.slice Aa1 a.x.monos.length ca1), (.slice Aa2 a.y.monos.length ca2)] 30)).alloc (Obj.cells #[.int .i64 0, .int .i64 0, .slice none 0 0, .slice none 0 0] 30))).heap.size := by simp
  have hq0 := hide (show (((w.alloc (Obj.cells #[.int .i64 a.kind, .int .i64 a.k, (.slice Aa1 a.x.monos.length ca1), (.slice Aa2 a.y.monos.length ca2)] 30)).alloc (Obj.cells #[.int .i64 0, .int .i64 0, .slice none 0 0, .slice none 0 0] 30))).heap.size = w.heap.size + 2 by simp)
  have hBa_0 : Bx ((w.alloc (Obj.cells #[.int .i64 a.kind, .int .i64 a.k, (.slice Aa1 a.x.monos.length ca1), (.slice Aa2 a.y.monos.length ca2)] 30)).alloc (Obj.cells #[.int .i64 0, .int .i64 0, .slice none 0 0, .slice none 0 0] 30)) (w.heap.size) [.int .i64 a.kind, .int .i64 a.k, (.slice Aa1 a.x.monos.length ca1), (.slice Aa2 a.y.monos.length ca2)] := (by have := (Bx.alloc (Bx.new w #[.int .i64 a.kind, .int .i64 a.k, (.slice Aa1 a.x.monos.length ca1), (.slice Aa2 a.y.monos.length ca2)] 30) (by simp) #[.int .i64 0, .int .i64 0, .slice none 0 0, .slice none 0 0] 30); simpa using this)
  have hFa_0 : ∀ oo, (((w.alloc (Obj.cells #[.int .i64 a.kind, .int .i64 a.k, (.slice Aa1 a.x.monos.length ca1), (.slice Aa2 a.y.monos.length ca2)] 30)).alloc (Obj.cells #[.int .i64 0, .int .i64 0, .slice none 0 0, .slice none 0 0] 30))).frozen? ⟨w.heap.size, oo, none⟩ = false := fun oo => by simp
  have hBres_0 : Bx ((w.alloc (Obj.cells #[.int .i64 a.kind, .int .i64 a.k, (.slice Aa1 a.x.monos.length ca1), (.slice Aa2 a.y.monos.length ca2)] 30)).alloc (Obj.cells #[.int .i64 0, .int .i64 0, .slice none 0 0, .slice none 0 0] 30)) (w.heap.size + 1) [.int .i64 0, .int .i64 0, .slice none 0 0, .slice none 0 0] := (by have := (Bx.new (w.alloc (Obj.cells #[.int .i64 a.kind, .int .i64 a.k, (.slice Aa1 a.x.monos.length ca1), (.slice Aa2 a.y.monos.length ca2)] 30)) #[.int .i64 0, .int .i64 0, .slice none 0 0, .slice none 0 0] 30); simpa using this)
  have hFres_0 : ∀ oo, (((w.alloc (Obj.cells #[.int .i64 a.kind, .int .i64 a.k, (.slice Aa1 a.x.monos.length ca1), (.slice Aa2 a.y.monos.length ca2)] 30)).alloc (Obj.cells #[.int .i64 0, .int .i64 0, .slice none 0 0, .slice none 0 0] 30))).frozen? ⟨w.heap.size + 1, oo, none⟩ = false := fun oo => by simp
  generalize ((w.alloc (Obj.cells #[.int .i64 a.kind, .int .i64 a.k, (.slice Aa1 a.x.monos.length ca1), (.slice Aa2 a.y.monos.length ca2)] 30)).alloc (Obj.cells #[.int .i64 0, .int .i64 0, .slice none 0 0, .slice none 0 0] 30)) = w0 at *
  have ya : w.heap.size < w0.heap.size := by omega
  have xa0 := hBa_0 0 _ rfl
  have xa1 := hBa_0 1 _ rfl
  have xa2 := hBa_0 2 _ rfl
  have xa3 := hBa_0 3 _ rfl
  have fa := hFa_0
  have yres : w.heap.size + 1 < w0.heap.size := by omega
  have xres0 := hBres_0 0 _ rfl
  have xres1 := hBres_0 1 _ rfl
  have xres2 := hBres_0 2 _ rfl
  have xres3 := hBres_0 3 _ rfl
  have fres := hFres_0
  go_upto_region 1 with fail
  have hS : ∀ w', Ext w0 w' → ∀ bb oo, bb < w0.heap.size → w'.cell? ⟨bb, oo, none⟩ = w0.cell? ⟨bb, oo, none⟩ := fun w' hx bb oo hb => hx.cell hb
  refine wp_region_plan (fun w' => Ext w0 w') 12 (.float 0 (.float 1 (.float 2 (.float 3 (.float 4 (.float 5 (.float 6 (.float 8 (.float 9 (.float 10 (.chain 7 (.chain 11 (.tail 12))))))))))))) (by kernel_rfl) (by kernel_rfl) (Ext.refl _).drew ?_
  iterate 10 ((refine Plan.float_step (v := ?_) rfl (by rfl) (fun _ _ _ h => h) (fun w' hSw => ?_) ?_; rotate_left; · (go_simp; try with_reducible rfl)); (try simp only [Act.put, List.setIfInBounds_toArray, List.set_cons_zero, List.set_cons_succ]))
  refine Plan.chain_step rfl (fun K hK => ?_)
  go_simp
  refine (l4Copy_any a.x.monos _ _ ((ha1.ext he0).ext Ext.auto) hb1_).mono ?_
  rintro e wq1 ⟨r1, F1, rfl, hO1, hF1_, hy⟩
  have hq1 : Ext w0 wq1 := Ext.trans Ext.auto hy
  have hF1 : Fr w0 wq1 F1 := hF1_.mk1 (by simp) (Nat.le_refl _)
  have hsq1 := hq1.size
  clear hF1_ hy
  obtain ⟨B1, d1, rfl, -, -⟩ := hO1.sl.form
  refine hK.out _ _ hq1 ?_
  clear hK
  (try simp only [Act.put, List.setIfInBounds_toArray, List.set_cons_zero, List.set_cons_succ])
  refine Plan.chain_step rfl (fun K hK => ?_)
  go_simp
  refine (l4Copy_any a.y.monos _ _ ((ha2.ext he0).ext (hq1.trans Ext.auto)) hb2_).mono ?_
  rintro e wq2 ⟨r2, F2, rfl, hO2, hF2_, hy⟩
  have hq2 : Ext wq1 wq2 := Ext.trans Ext.auto hy
  have hF2 : Fr wq1 wq2 F2 := hF2_.mk1 (by simp) (Nat.le_refl _)
  have hsq2 := hq2.size
  clear hF2_ hy
  obtain ⟨B2, d2, rfl, -, -⟩ := hO2.sl.form
  refine hK.out _ _ (hq1.trans hq2) ?_
  clear hK
  (try simp only [Act.put, List.setIfInBounds_toArray, List.set_cons_zero, List.set_cons_succ])
  have hxb : Ext w0 wq2 := hq1.trans hq2
  have hsb := hxb.size
  have hP1 := OwnSl.up hO1 hF1 hq2
  have hFF : Fr w0 wq2 (F1 ++ F2) := Fr.mk2 (w := w0) (w' := wq2) hF1 hF2 (by omega) (by omega) (by omega) (by omega) (by omega)
  refine Plan.tail_step ?_
  simp only [List.drop_succ_cons, List.drop_zero]
  clear hS
  have yR : w.heap.size + 1 < wq2.heap.size := by omega
  have xR0 : wq2.cell? ⟨w.heap.size + 1, 0, none⟩ = some (.int .i64 0) := (hxb.cell (by show w.heap.size + 1 < w0.heap.size; omega)).trans xres0
  have xR1 : wq2.cell? ⟨w.heap.size + 1, 1, none⟩ = some (.int .i64 0) := (hxb.cell (by show w.heap.size + 1 < w0.heap.size; omega)).trans xres1
  have xR2 : wq2.cell? ⟨w.heap.size + 1, 2, none⟩ = some (.slice none 0 0) := (hxb.cell (by show w.heap.size + 1 < w0.heap.size; omega)).trans xres2
  have xR3 : wq2.cell? ⟨w.heap.size + 1, 3, none⟩ = some (.slice none 0 0) := (hxb.cell (by show w.heap.size + 1 < w0.heap.size; omega)).trans xres3
  have fR : ∀ oo, wq2.frozen? ⟨w.heap.size + 1, oo, none⟩ = false := fun oo => (hxb.frozen (by show w.heap.size + 1 < w0.heap.size; omega)).trans (fres oo)
  clear xa0 xa1 xa2 xa3 ya fa xres0 xres1 xres2 xres3 yres fres
  go_wp2
  refine bodyPost_ret (v := .agg #[.int .i64 a.kind, .int .i64 a.k, .slice B1 a.x.monos.length d1, .slice B2 a.y.monos.length d2]) (by simp [results, Try.results58, go_sem, xR0, xR1, xR2, xR3]) rfl ⟨_, _, F1, F2, rfl, OwnSl.stay hP1 (fun z hz => ?_), OwnSl.stay hO2 (fun z hz => ?_), hFF.mk1 (by omega) (by simp), Ext.hold (he0.trans hxb)⟩
  · have q := hFF.2 z (by simp [hz]); have q1 := q.1
    repeat (first | rw [heap_set _ _ _ _ (by show _ ≠ z; omega)] | rw [heap_set _ _ _ _ (by simp; omega)])
  · have q := hFF.2 z (by simp [hz]); have q1 := q.1
    repeat (first | rw [heap_set _ _ _ _ (by show _ ≠ z; omega)] | rw [heap_set _ _ _ _ (by simp; omega)])

set_option maxHeartbeats 32000000 in
theorem l5Copy_any (t : TabTab) (vt1 : Value) (w : World) (ht1 : Sl w (Old w) vt1 t.atoms) (hn : Bulk.blk t ≤ 4194304) :
    Calls Try.prog 30 #[.agg #[vt1]] w fun e w' => ∃ r Fs xs, e = .returned (.agg #[r]) ∧ App w w' 30 r t.atoms Fs xs := by
  obtain ⟨At1, ct1, rfl, hlt1, hmt1⟩ := ht1.form
  have hnl : Bulk.blk t.atoms ≤ 4194304 := hn
  unfold maxLen at hmt1
  obtain ⟨i0a, hi_, hz0, hz1, hz2⟩ := info_parts infTabAtom
  have HIa := hide hi_
  have HZ0a := hide hz0
  have HZ1a := hide hz1
  have HZ2a := hide hz2
  clear hi_ hz0 hz1 hz2
  have hbl := blk_len t.atoms
  go_enter Try.func30, Try.ntmps30
  go_upto_region 1 with fail
  have he0 : Ext w ((w.alloc (Obj.cells #[(.slice At1 t.atoms.length ct1)] 25)).alloc (Obj.cells #[.slice none 0 0] 25)) := (Ext.auto)
  have hs0 : w.heap.size + 2 ≤ (((w.alloc (Obj.cells #[(.slice At1 t.atoms.length ct1)] 25)).alloc (Obj.cells #[.slice none 0 0] 25))).heap.size := by simp
  have hq0 := hide (show (((w.alloc (Obj.cells #[(.slice At1 t.atoms.length ct1)] 25)).alloc (Obj.cells #[.slice none 0 0] 25))).heap.size = w.heap.size + 2 by simp)
  have hBt_0 : Bx ((w.alloc (Obj.cells #[(.slice At1 t.atoms.length ct1)] 25)).alloc (Obj.cells #[.slice none 0 0] 25)) (w.heap.size) [(.slice At1 t.atoms.length ct1)] := (by have := (Bx.alloc (Bx.new w #[(.slice At1 t.atoms.length ct1)] 25) (by simp) #[.slice none 0 0] 25); simpa using this)
  have hFt_0 : ∀ oo, (((w.alloc (Obj.cells #[(.slice At1 t.atoms.length ct1)] 25)).alloc (Obj.cells #[.slice none 0 0] 25))).frozen? ⟨w.heap.size, oo, none⟩ = false := fun oo => by simp
  have hBres_0 : Bx ((w.alloc (Obj.cells #[(.slice At1 t.atoms.length ct1)] 25)).alloc (Obj.cells #[.slice none 0 0] 25)) (w.heap.size + 1) [.slice none 0 0] := (by have := (Bx.new (w.alloc (Obj.cells #[(.slice At1 t.atoms.length ct1)] 25)) #[.slice none 0 0] 25); simpa using this)
  have hFres_0 : ∀ oo, (((w.alloc (Obj.cells #[(.slice At1 t.atoms.length ct1)] 25)).alloc (Obj.cells #[.slice none 0 0] 25))).frozen? ⟨w.heap.size + 1, oo, none⟩ = false := fun oo => by simp
  generalize ((w.alloc (Obj.cells #[(.slice At1 t.atoms.length ct1)] 25)).alloc (Obj.cells #[.slice none 0 0] 25)) = w0 at *
  go_upto_region 2 with fail
  have he1 : Ext w (w0.alloc (.cells #[.slice none 0 0] 25)) := Ext.hold he0
  have hx1 : Ext w0 (w0.alloc (.cells #[.slice none 0 0] 25)) := Ext.auto
  have hs1 : w0.heap.size + 1 ≤ ((w0.alloc (.cells #[.slice none 0 0] 25))).heap.size := by simp
  have hBt_1 : Bx (w0.alloc (.cells #[.slice none 0 0] 25)) (w.heap.size) [(.slice At1 t.atoms.length ct1)] := Bx.hold hBt_0
  have hFt_1 : ∀ oo, (w0.alloc (.cells #[.slice none 0 0] 25)).frozen? ⟨w.heap.size, oo, none⟩ = false := fz_hold hFt_0
  have hBres_1 : Bx (w0.alloc (.cells #[.slice none 0 0] 25)) (w.heap.size + 1) [.slice none 0 0] := Bx.hold hBres_0
  have hFres_1 : ∀ oo, (w0.alloc (.cells #[.slice none 0 0] 25)).frozen? ⟨w.heap.size + 1, oo, none⟩ = false := fz_hold hFres_0
  have hBx_1 : Bx (w0.alloc (.cells #[.slice none 0 0] 25)) (w0.heap.size) [.slice none 0 0] := Bx.new w0 #[.slice none 0 0] 25
  have hFx_1 : ∀ oo, (w0.alloc (.cells #[.slice none 0 0] 25)).frozen? ⟨w0.heap.size, oo, none⟩ = false := fz_new w0 #[.slice none 0 0] 25 rfl
  generalize (w0.alloc (.cells #[.slice none 0 0] 25)) = w1 at *
  clear hBt_0 hFt_0 hBres_0 hFres_0
  have yt : w.heap.size < w1.heap.size := by omega
  have xt0 : w1.cell? ⟨w.heap.size, 0, none⟩ = some ((.slice At1 t.atoms.length ct1)) := hBt_1 0 _ rfl
  go_wp2
  clear xt0 yt
  go_loopw [4] (fun i wz => ∃ (k : Nat) (v : Value) (Fs : List (List Nat)) (xs : List Value), k ≤ t.atoms.length ∧ i = .int .i64 k ∧ App w wz 30 v (t.atoms.take k) Fs xs ∧ (∀ q, v.ownBlock = some q → w1.heap.size ≤ q) ∧ (∀ z, z ∈ Fs.flatten → w1.heap.size ≤ z) ∧ Ext w wz ∧ w1.heap.size ≤ wz.heap.size ∧ Bx wz (w0.heap.size) [v] ∧ (∀ oo, wz.frozen? ⟨w0.heap.size, oo, none⟩ = false) ∧ Bx wz (w.heap.size) [(.slice At1 t.atoms.length ct1)] ∧ (∀ oo, wz.frozen? ⟨w.heap.size, oo, none⟩ = false) ∧ Bx wz (w.heap.size + 1) [.slice none 0 0] ∧ (∀ oo, wz.frozen? ⟨w.heap.size + 1, oo, none⟩ = false)) (fun i _ => t.atoms.length - (intOf i).toNat)
  case atStart => exact ⟨0, _, _, _, by omega, rfl, (App.nil w 30).call he1, fun q hq => by simp [Value.ownBlock] at hq, fun z hz => by simp at hz, he1, by omega, hBx_1, hFx_1, hBt_1, hFt_1, hBres_1, hFres_1⟩
  case round =>
    obtain ⟨w2, hwr⟩ : ∃ w2 : World, w2 = wr := ⟨_, rfl⟩
    subst hwr
    clear hBt_1 hFt_1 hBres_1 hFres_1 hBx_1 hFx_1
    obtain ⟨k, v, Fs, xs, hk, rfl, hA, hvo, hfo, he2, hs2, hBx_2, hFx_2, hBt_2, hFt_2, hBres_2, hFres_2⟩ := hrel
    by_cases hlt : k < t.atoms.length
    · 
      obtain ⟨Lk, hLk⟩ : ∃ Lk, Lk = t.atoms.take k := ⟨_, rfl⟩
      rw [← hLk] at hA
      have hLkl : Lk.length ≤ k := by rw [hLk]; simp; omega
      have HLk := hide hLk
      clear hLk
      obtain ⟨F7, hO7, -⟩ := hA.done
      obtain ⟨A7, c7, rfl, -, -⟩ := hO7.sl.form
      clear hO7
      obtain ⟨b, off, va1, va2, rfl, hbo, hk0, hva1, hva2, e0, e1, e2, e3⟩ := at_TabAtom (ht1.ext he2) hlt
      obtain ⟨Av1, cv1, rfl, -, -⟩ := hva1.form
      obtain ⟨Av2, cv2, rfl, -, -⟩ := hva2.form
      have hbo1 : b < w2.heap.size := hbo
      have z0 : (0 : Int) ≤ (k : Int) := by omega
      have z1 : (k : Int) < (t.atoms.length : Int) := by omega
      have hbk := blk_el t.atoms k hlt
      have hba : Bulk.blk t.atoms[k] = Bulk.blk t.atoms[k].x.monos + Bulk.blk t.atoms[k].y.monos := rfl
      have HT := hide (List.take_succ_eq_append_getElem hlt)
      have hb0_ : Bulk.blk t.atoms[k] ≤ 4194304 := by omega
      have hb1_ : Bulk.blk t.atoms[k].x.monos ≤ 4194304 := by omega
      have hb2_ : Bulk.blk t.atoms[k].y.monos ≤ 4194304 := by omega
      clear hba
      have yt : w.heap.size < w2.heap.size := by omega
      have xt0 : w2.cell? ⟨w.heap.size, 0, none⟩ = some ((.slice (some ⟨b, off, none⟩) t.atoms.length ct1)) := hBt_2 0 _ rfl
      have ft := hFt_2
      have yx : w0.heap.size < w2.heap.size := by omega
      have xx0 : w2.cell? ⟨w0.heap.size, 0, none⟩ = some (.slice A7 Lk.length c7) := hBx_2 0 _ rfl
      have fx := hFx_2
      go_upto_region 5 with fail
      have hS : ∀ w', Ext w2 w' → ∀ bb oo, bb < w2.heap.size → w'.cell? ⟨bb, oo, none⟩ = w2.cell? ⟨bb, oo, none⟩ := fun w' hx bb oo hb => hx.cell hb
      refine wp_region_plan (fun w' => Ext w2 w') 9 (.float 0 (.float 1 (.float 2 (.float 3 (.float 4 (.float 5 (.float 6 (.chain 7 (.chain 8 (.tail 9)))))))))) (by kernel_rfl) (by kernel_rfl) (Ext.refl _).drew ?_
      iterate 7 ((refine Plan.float_step (v := ?_) rfl (by rfl) (fun _ _ _ h => h) (fun w' hSw => ?_) ?_; rotate_left; · (go_simp; try with_reducible rfl)); (try simp only [Act.put, List.setIfInBounds_toArray, List.set_cons_zero, List.set_cons_succ]))
      refine Plan.chain_step rfl (fun K hK => ?_)
      go_simp
      refine (l5Twin_any t.atoms[k] _ _ _ (hva1.ext Ext.auto) (hva2.ext Ext.auto) hb0_).mono ?_
      rintro e wb ⟨r1, r2, F1, F2, rfl, hP1, hO2, hF_, hy⟩
      have hxb : Ext w2 wb := Ext.trans Ext.auto hy
      have hFF : Fr w2 wb (F1 ++ F2) := hF_.mk1 (by simp) (Nat.le_refl _)
      clear hF_ hy
      have hsb := hxb.size
      obtain ⟨B1, d1, rfl, -, -⟩ := hP1.sl.form
      obtain ⟨B2, d2, rfl, -, -⟩ := hO2.sl.form
      refine hK.out _ _ hxb ?_
      clear hK
      (try simp only [Act.put, List.setIfInBounds_toArray, List.set_cons_zero, List.set_cons_succ])
      have hBZ : Bx (wb.alloc (.cells #[.int .i64 (t.atoms[k].kind), .int .i64 (t.atoms[k].k), .slice B1 t.atoms[k].x.monos.length d1, .slice B2 t.atoms[k].y.monos.length d2] 30)) (w0.heap.size) [.slice A7 Lk.length c7] := Bx.alloc (hxb.bx hBx_2 (by omega)) (by omega) _ _
      have hFZ : ∀ oo, (wb.alloc (.cells #[.int .i64 (t.atoms[k].kind), .int .i64 (t.atoms[k].k), .slice B1 t.atoms[k].x.monos.length d1, .slice B2 t.atoms[k].y.monos.length d2] 30)).frozen? ⟨w0.heap.size, oo, none⟩ = false := fz_alloc (fun oo => (hxb.frozen (by omega)).trans (hFx_2 oo)) (by omega) _
      refine Plan.chain_step rfl (fun K hK => ?_)
      go_simp
      refine hK.out _ _ (hxb.alloc _) ?_
      clear hK
      (try simp only [Act.put, List.setIfInBounds_toArray, List.set_cons_zero, List.set_cons_succ])
      refine Plan.tail_step ?_
      simp only [List.drop_succ_cons, List.drop_zero]
      clear hS
      refine wpList_append_push2 (w0 := w) (wr := w2) rfl _ _ 23 rfl i0a _ 64 Try.underlying23 HIa.out HZ0a.out HZ1a.out HZ2a.out rfl (by decide) hA rfl (t.atoms[k]) #[.int .i64 (t.atoms[k].kind), .int .i64 (t.atoms[k].k), .slice B1 t.atoms[k].x.monos.length d1, .slice B2 t.atoms[k].y.monos.length d2] 30 ((F1 ++ F2)) _ rfl hxb ⟨_, _, F1, F2, rfl, hk0, hP1, hO2, rfl⟩ hFF (by repeat (first | (exact fun _ h => absurd h (List.not_mem_nil)) | (refine List.forall_mem_cons.2 ⟨rfl, ?_⟩))) (by unfold maxLen; omega) (by omega) ?_
      intro v' wq9 xs' hA9 hg9 hb9
      have hz9 := hg9.size
      have hne9 : some (w0.heap.size) ≠ (Value.ownBlock (.slice A7 Lk.length c7)) := fun q => by have := hvo _ q.symm; omega
      have hBx9 := (show Bx (wb.alloc (.cells #[.int .i64 (t.atoms[k].kind), .int .i64 (t.atoms[k].k), .slice B1 t.atoms[k].x.monos.length d1, .slice B2 t.atoms[k].y.monos.length d2] 30)) (w0.heap.size) [.slice A7 Lk.length c7] from hBZ).grown hg9 (by simp; omega) hne9
      have hFx9 := fz_grown (show ∀ oo, (wb.alloc (.cells #[.int .i64 (t.atoms[k].kind), .int .i64 (t.atoms[k].k), .slice B1 t.atoms[k].x.monos.length d1, .slice B2 t.atoms[k].y.monos.length d2] 30)).frozen? ⟨w0.heap.size, oo, none⟩ = false from hFZ) hg9 (by simp; omega) hne9
      have yz9 : w0.heap.size < wq9.heap.size := by simp at hz9; omega
      have xz0 := hBx9 0 _ rfl
      have hvo9 : ∀ q, v'.ownBlock = some q → w1.heap.size ≤ q := fun q hq => by
        rcases hb9 with hb | hb
        · exact hvo q (hb ▸ hq)
        · rw [hb] at hq; injection hq with hq; simp at hq; omega
      obtain ⟨L9, hL9⟩ : ∃ L9, L9 = Lk ++ [t.atoms[k]] := ⟨_, rfl⟩
      rw [← hL9] at hA9
      have HL9 := hide hL9
      clear hL9
      obtain ⟨F9, hO9, -⟩ := hA9.done
      obtain ⟨A9, c9, rfl, -, -⟩ := hO9.sl.form
      clear hO9
      have hsz9 : w2.heap.size ≤ wq9.heap.size := by simp at hz9; omega
      go_wp2
      have hfo9 : ∀ z, z ∈ (Fs ++ [F1 ++ F2]).flatten → w1.heap.size ≤ z := fun z hz => by
        rw [List.flatten_append] at hz
        rcases List.mem_append.1 hz with hz | hz
        · exact hfo z hz
        · have := (hFF.2 z (by simpa using hz)).1; omega
      have hA8 := App.set hA9 (p := ⟨w0.heap.size, 0, none⟩) (.slice A9 L9.length c9) (fun q => by have := hvo9 _ q; simp at this; omega) (fun hm => by have := hfo9 _ hm; simp at this; omega) (by simp; omega)
      have hBx8 : Bx (wq9.setCell ⟨w0.heap.size, 0, none⟩ (.slice A9 L9.length c9)) (w0.heap.size) [.slice A9 L9.length c9] := by have := Bx.put hBx9 (j := 0) (by simp) (.slice A9 L9.length c9); simpa using this
      have hBt_8 : Bx (wq9.setCell ⟨w0.heap.size, 0, none⟩ (.slice A9 L9.length c9)) (w.heap.size) [(.slice (some ⟨b, off, none⟩) t.atoms.length ct1)] := Bx.setCell ((show Bx (wb.alloc (.cells #[.int .i64 (t.atoms[k].kind), .int .i64 (t.atoms[k].k), .slice B1 t.atoms[k].x.monos.length d1, .slice B2 t.atoms[k].y.monos.length d2] 30)) _ _ from Bx.alloc (hxb.bx hBt_2 (by omega)) (by omega) _ _).grown hg9 (by simp; omega) (fun q => by have := hvo _ q.symm; omega)) (by simp; omega) _
      have hFt_8 : ∀ oo, (wq9.setCell ⟨w0.heap.size, 0, none⟩ (.slice A9 L9.length c9)).frozen? ⟨w.heap.size, oo, none⟩ = false := fz_set (fz_grown (show ∀ oo, (wb.alloc (.cells #[.int .i64 (t.atoms[k].kind), .int .i64 (t.atoms[k].k), .slice B1 t.atoms[k].x.monos.length d1, .slice B2 t.atoms[k].y.monos.length d2] 30)).frozen? ⟨w.heap.size, oo, none⟩ = false from fz_alloc (fun oo => (hxb.frozen (by omega)).trans (hFt_2 oo)) (by omega) _) hg9 (by simp; omega) (fun q => by have := hvo _ q.symm; omega)) _ _
      have hBres_8 : Bx (wq9.setCell ⟨w0.heap.size, 0, none⟩ (.slice A9 L9.length c9)) (w.heap.size + 1) [.slice none 0 0] := Bx.setCell ((show Bx (wb.alloc (.cells #[.int .i64 (t.atoms[k].kind), .int .i64 (t.atoms[k].k), .slice B1 t.atoms[k].x.monos.length d1, .slice B2 t.atoms[k].y.monos.length d2] 30)) _ _ from Bx.alloc (hxb.bx hBres_2 (by omega)) (by omega) _ _).grown hg9 (by simp; omega) (fun q => by have := hvo _ q.symm; omega)) (by simp; omega) _
      have hFres_8 : ∀ oo, (wq9.setCell ⟨w0.heap.size, 0, none⟩ (.slice A9 L9.length c9)).frozen? ⟨w.heap.size + 1, oo, none⟩ = false := fz_set (fz_grown (show ∀ oo, (wb.alloc (.cells #[.int .i64 (t.atoms[k].kind), .int .i64 (t.atoms[k].k), .slice B1 t.atoms[k].x.monos.length d1, .slice B2 t.atoms[k].y.monos.length d2] 30)).frozen? ⟨w.heap.size + 1, oo, none⟩ = false from fz_alloc (fun oo => (hxb.frozen (by omega)).trans (hFres_2 oo)) (by omega) _) hg9 (by simp; omega) (fun q => by have := hvo _ q.symm; omega)) _ _
      go_roundw
      case rel => exact ⟨k + 1, _, _, _, by omega, by go_num, by rw [HT.out, ← HLk.out, ← HL9.out]; exact hA8, hvo9, hfo9, hA8.ext, by simp; omega, hBx8, fz_set hFx9 _ _, hBt_8, hFt_8, hBres_8, hFres_8⟩
      case measure => simp [intOf]; omega
    · 
      obtain rfl : k = t.atoms.length := by omega
      rw [List.take_length] at hA
      obtain ⟨F9, hO9, -⟩ := hA.done
      obtain ⟨B9, d9, rfl, -, -⟩ := hO9.sl.form
      clear hO9
      have yx : w0.heap.size < w2.heap.size := by omega
      have xx0 : w2.cell? ⟨w0.heap.size, 0, none⟩ = some (.slice B9 t.atoms.length d9) := hBx_2 0 _ rfl
      have yres : w.heap.size + 1 < w2.heap.size := by omega
      have xres0 : w2.cell? ⟨w.heap.size + 1, 0, none⟩ = some (.slice none 0 0) := hBres_2 0 _ rfl
      have yt : w.heap.size < w2.heap.size := by omega
      have xt0 : w2.cell? ⟨w.heap.size, 0, none⟩ = some (.slice At1 t.atoms.length ct1) := hBt_2 0 _ rfl
      have fres := hFres_2
      go_wp2
      refine bodyPost_ret (v := .agg #[.slice B9 t.atoms.length d9]) (by simp [results, Try.results30, go_sem, xres0]) rfl ⟨_, _, _, rfl, App.set hA _ (fun q => by have := hvo _ q; simp at this; omega) (fun hm => by have := hfo _ hm; simp at this; omega) (by simp)⟩

set_option maxHeartbeats 32000000 in
theorem cloneTab_any (t : TabTab) (vt1 : Value) (w : World) (ht1 : Sl w (Old w) vt1 t.atoms) (hn : Bulk.blk t ≤ 4194304) :
    Calls Try.prog 28 #[.agg #[vt1]] w fun e w' => ∃ r F, e = .returned (.agg #[r]) ∧ OwnSl w' r t.atoms F ∧ Fr w w' F ∧ Ext w w' := by
  obtain ⟨At1, ct1, rfl, hlt1, hmt1⟩ := ht1.form
  have hnl : Bulk.blk t.atoms ≤ 4194304 := hn
  unfold maxLen at hmt1
  obtain ⟨i0a, hi_, hz0, hz1, hz2⟩ := info_parts infTabAtom
  have HIa := hide hi_
  have HZ0a := hide hz0
  have HZ1a := hide hz1
  have HZ2a := hide hz2
  clear hi_ hz0 hz1 hz2
  have hbl := blk_len t.atoms
  go_enter Try.func28, Try.ntmps28
  go_upto_region 1 with fail
  have he0 : Ext w ((w.alloc (Obj.cells #[(.slice At1 t.atoms.length ct1)] 25)).alloc (Obj.cells #[.slice none 0 0] 25)) := (Ext.auto)
  have hs0 : w.heap.size + 2 ≤ (((w.alloc (Obj.cells #[(.slice At1 t.atoms.length ct1)] 25)).alloc (Obj.cells #[.slice none 0 0] 25))).heap.size := by simp
  have hq0 := hide (show (((w.alloc (Obj.cells #[(.slice At1 t.atoms.length ct1)] 25)).alloc (Obj.cells #[.slice none 0 0] 25))).heap.size = w.heap.size + 2 by simp)
  have hBt_0 : Bx ((w.alloc (Obj.cells #[(.slice At1 t.atoms.length ct1)] 25)).alloc (Obj.cells #[.slice none 0 0] 25)) (w.heap.size) [(.slice At1 t.atoms.length ct1)] := (by have := (Bx.alloc (Bx.new w #[(.slice At1 t.atoms.length ct1)] 25) (by simp) #[.slice none 0 0] 25); simpa using this)
  have hFt_0 : ∀ oo, (((w.alloc (Obj.cells #[(.slice At1 t.atoms.length ct1)] 25)).alloc (Obj.cells #[.slice none 0 0] 25))).frozen? ⟨w.heap.size, oo, none⟩ = false := fun oo => by simp
  have hBres_0 : Bx ((w.alloc (Obj.cells #[(.slice At1 t.atoms.length ct1)] 25)).alloc (Obj.cells #[.slice none 0 0] 25)) (w.heap.size + 1) [.slice none 0 0] := (by have := (Bx.new (w.alloc (Obj.cells #[(.slice At1 t.atoms.length ct1)] 25)) #[.slice none 0 0] 25); simpa using this)
  have hFres_0 : ∀ oo, (((w.alloc (Obj.cells #[(.slice At1 t.atoms.length ct1)] 25)).alloc (Obj.cells #[.slice none 0 0] 25))).frozen? ⟨w.heap.size + 1, oo, none⟩ = false := fun oo => by simp
  generalize ((w.alloc (Obj.cells #[(.slice At1 t.atoms.length ct1)] 25)).alloc (Obj.cells #[.slice none 0 0] 25)) = w0 at *
  go_upto_region 2 with fail
  have he1 : Ext w (w0.alloc (.cells #[.slice none 0 0] 25)) := Ext.hold he0
  have hx1 : Ext w0 (w0.alloc (.cells #[.slice none 0 0] 25)) := Ext.auto
  have hs1 : w0.heap.size + 1 ≤ ((w0.alloc (.cells #[.slice none 0 0] 25))).heap.size := by simp
  have hBt_1 : Bx (w0.alloc (.cells #[.slice none 0 0] 25)) (w.heap.size) [(.slice At1 t.atoms.length ct1)] := Bx.hold hBt_0
  have hFt_1 : ∀ oo, (w0.alloc (.cells #[.slice none 0 0] 25)).frozen? ⟨w.heap.size, oo, none⟩ = false := fz_hold hFt_0
  have hBres_1 : Bx (w0.alloc (.cells #[.slice none 0 0] 25)) (w.heap.size + 1) [.slice none 0 0] := Bx.hold hBres_0
  have hFres_1 : ∀ oo, (w0.alloc (.cells #[.slice none 0 0] 25)).frozen? ⟨w.heap.size + 1, oo, none⟩ = false := fz_hold hFres_0
  have hBx_1 : Bx (w0.alloc (.cells #[.slice none 0 0] 25)) (w0.heap.size) [.slice none 0 0] := Bx.new w0 #[.slice none 0 0] 25
  have hFx_1 : ∀ oo, (w0.alloc (.cells #[.slice none 0 0] 25)).frozen? ⟨w0.heap.size, oo, none⟩ = false := fz_new w0 #[.slice none 0 0] 25 rfl
  generalize (w0.alloc (.cells #[.slice none 0 0] 25)) = w1 at *
  clear hBt_0 hFt_0 hBres_0 hFres_0
  have yt : w.heap.size < w1.heap.size := by omega
  have xt0 : w1.cell? ⟨w.heap.size, 0, none⟩ = some ((.slice At1 t.atoms.length ct1)) := hBt_1 0 _ rfl
  go_wp2
  clear xt0 yt
  go_loopw [9] (fun i wz => ∃ (k : Nat) (v : Value) (Fs : List (List Nat)) (xs : List Value), k ≤ t.atoms.length ∧ i = .int .i64 k ∧ App w wz 30 v (t.atoms.take k) Fs xs ∧ (∀ q, v.ownBlock = some q → w1.heap.size ≤ q) ∧ (∀ z, z ∈ Fs.flatten → w1.heap.size ≤ z) ∧ Ext w wz ∧ w1.heap.size ≤ wz.heap.size ∧ Bx wz (w0.heap.size) [v] ∧ (∀ oo, wz.frozen? ⟨w0.heap.size, oo, none⟩ = false) ∧ Bx wz (w.heap.size + 1) [.slice none 0 0] ∧ (∀ oo, wz.frozen? ⟨w.heap.size + 1, oo, none⟩ = false)) (fun i _ => t.atoms.length - (intOf i).toNat)
  case atStart => exact ⟨0, _, _, _, by omega, rfl, (App.nil w 30).call he1, fun q hq => by simp [Value.ownBlock] at hq, fun z hz => by simp at hz, he1, by omega, hBx_1, hFx_1, hBres_1, hFres_1⟩
  case round =>
    obtain ⟨w2, hwr⟩ : ∃ w2 : World, w2 = wr := ⟨_, rfl⟩
    subst hwr
    clear hBt_1 hFt_1 hBres_1 hFres_1 hBx_1 hFx_1
    obtain ⟨k, v, Fs, xs, hk, rfl, hA, hvo, hfo, he2, hs2, hBx_2, hFx_2, hBres_2, hFres_2⟩ := hrel
    by_cases hlt : k < t.atoms.length
    · 
      obtain ⟨Lk, hLk⟩ : ∃ Lk, Lk = t.atoms.take k := ⟨_, rfl⟩
      rw [← hLk] at hA
      have hLkl : Lk.length ≤ k := by rw [hLk]; simp; omega
      have HLk := hide hLk
      clear hLk
      obtain ⟨F7, hO7, -⟩ := hA.done
      obtain ⟨A7, c7, rfl, -, -⟩ := hO7.sl.form
      clear hO7
      obtain ⟨b, off, va1, va2, rfl, hbo, hk0, hva1, hva2, e0, e1, e2, e3⟩ := at_TabAtom (ht1.ext he2) hlt
      obtain ⟨Av1, cv1, rfl, -, -⟩ := hva1.form
      obtain ⟨Av2, cv2, rfl, -, -⟩ := hva2.form
      have hbo1 : b < w2.heap.size := hbo
      have z0 : (0 : Int) ≤ (k : Int) := by omega
      have z1 : (k : Int) < (t.atoms.length : Int) := by omega
      have hbk := blk_el t.atoms k hlt
      have hba : Bulk.blk t.atoms[k] = Bulk.blk t.atoms[k].x.monos + Bulk.blk t.atoms[k].y.monos := rfl
      have HT := hide (List.take_succ_eq_append_getElem hlt)
      have hb0_ : Bulk.blk t.atoms[k] ≤ 4194304 := by omega
      have hb1_ : Bulk.blk t.atoms[k].x.monos ≤ 4194304 := by omega
      have hb2_ : Bulk.blk t.atoms[k].y.monos ≤ 4194304 := by omega
      clear hba
      go_upto_region 5 with fail
      clear e0 e1 e2 e3
      have he3 : Ext w (w2.alloc (.cells #[.int .i64 (t.atoms[k].kind), .int .i64 (t.atoms[k].k), .slice Av1 t.atoms[k].x.monos.length cv1, .slice Av2 t.atoms[k].y.monos.length cv2] 30)) := Ext.hold he2
      have hx3 : Ext w2 (w2.alloc (.cells #[.int .i64 (t.atoms[k].kind), .int .i64 (t.atoms[k].k), .slice Av1 t.atoms[k].x.monos.length cv1, .slice Av2 t.atoms[k].y.monos.length cv2] 30)) := Ext.auto
      have hs3 : w2.heap.size + 1 ≤ ((w2.alloc (.cells #[.int .i64 (t.atoms[k].kind), .int .i64 (t.atoms[k].k), .slice Av1 t.atoms[k].x.monos.length cv1, .slice Av2 t.atoms[k].y.monos.length cv2] 30))).heap.size := by simp
      have hBx_3 : Bx (w2.alloc (.cells #[.int .i64 (t.atoms[k].kind), .int .i64 (t.atoms[k].k), .slice Av1 t.atoms[k].x.monos.length cv1, .slice Av2 t.atoms[k].y.monos.length cv2] 30)) (w0.heap.size) [.slice A7 Lk.length c7] := Bx.hold hBx_2
      have hFx_3 : ∀ oo, (w2.alloc (.cells #[.int .i64 (t.atoms[k].kind), .int .i64 (t.atoms[k].k), .slice Av1 t.atoms[k].x.monos.length cv1, .slice Av2 t.atoms[k].y.monos.length cv2] 30)).frozen? ⟨w0.heap.size, oo, none⟩ = false := fz_hold hFx_2
      have hBres_3 : Bx (w2.alloc (.cells #[.int .i64 (t.atoms[k].kind), .int .i64 (t.atoms[k].k), .slice Av1 t.atoms[k].x.monos.length cv1, .slice Av2 t.atoms[k].y.monos.length cv2] 30)) (w.heap.size + 1) [.slice none 0 0] := Bx.hold hBres_2
      have hFres_3 : ∀ oo, (w2.alloc (.cells #[.int .i64 (t.atoms[k].kind), .int .i64 (t.atoms[k].k), .slice Av1 t.atoms[k].x.monos.length cv1, .slice Av2 t.atoms[k].y.monos.length cv2] 30)).frozen? ⟨w.heap.size + 1, oo, none⟩ = false := fz_hold hFres_2
      have hBe_3 : Bx (w2.alloc (.cells #[.int .i64 (t.atoms[k].kind), .int .i64 (t.atoms[k].k), .slice Av1 t.atoms[k].x.monos.length cv1, .slice Av2 t.atoms[k].y.monos.length cv2] 30)) (w2.heap.size) [.int .i64 (t.atoms[k].kind), .int .i64 (t.atoms[k].k), .slice Av1 t.atoms[k].x.monos.length cv1, .slice Av2 t.atoms[k].y.monos.length cv2] := Bx.new w2 #[.int .i64 (t.atoms[k].kind), .int .i64 (t.atoms[k].k), .slice Av1 t.atoms[k].x.monos.length cv1, .slice Av2 t.atoms[k].y.monos.length cv2] 30
      have hFe_3 : ∀ oo, (w2.alloc (.cells #[.int .i64 (t.atoms[k].kind), .int .i64 (t.atoms[k].k), .slice Av1 t.atoms[k].x.monos.length cv1, .slice Av2 t.atoms[k].y.monos.length cv2] 30)).frozen? ⟨w2.heap.size, oo, none⟩ = false := fz_new w2 #[.int .i64 (t.atoms[k].kind), .int .i64 (t.atoms[k].k), .slice Av1 t.atoms[k].x.monos.length cv1, .slice Av2 t.atoms[k].y.monos.length cv2] 30 rfl
      generalize (w2.alloc (.cells #[.int .i64 (t.atoms[k].kind), .int .i64 (t.atoms[k].k), .slice Av1 t.atoms[k].x.monos.length cv1, .slice Av2 t.atoms[k].y.monos.length cv2] 30)) = w3 at *
      clear hBx_2 hFx_2 hBres_2 hFres_2
      have hv1 := hva1.ext hx3
      have hv2 := hva2.ext hx3
      have yx : w0.heap.size < w3.heap.size := by omega
      have xx0 : w3.cell? ⟨w0.heap.size, 0, none⟩ = some (.slice A7 Lk.length c7) := hBx_3 0 _ rfl
      have ye : w2.heap.size < w3.heap.size := by omega
      have xe0 := hBe_3 0 _ rfl
      have xe1 := hBe_3 1 _ rfl
      have xe2 := hBe_3 2 _ rfl
      have xe3 := hBe_3 3 _ rfl
      have hS : ∀ w', Ext w3 w' → ∀ bb oo, bb < w3.heap.size → w'.cell? ⟨bb, oo, none⟩ = w3.cell? ⟨bb, oo, none⟩ := fun w' hx bb oo hb => hx.cell hb
      refine wp_region_plan (fun w' => Ext w3 w') 14 (.float 0 (.float 1 (.float 2 (.float 3 (.float 4 (.float 5 (.float 6 (.float 7 (.float 9 (.float 10 (.chain 8 (.chain 11 (.float 12 (.chain 13 (.tail 14))))))))))))))) (by kernel_rfl) (by kernel_rfl) (Ext.refl _).drew ?_
      iterate 10 ((refine Plan.float_step (v := ?_) rfl (by rfl) (fun _ _ _ h => h) (fun w' hSw => ?_) ?_; rotate_left; · (go_simp; try with_reducible rfl)); (try simp only [Act.put, List.setIfInBounds_toArray, List.set_cons_zero, List.set_cons_succ]))
      refine Plan.chain_step rfl (fun K hK => ?_)
      go_simp
      refine (clonePol_any t.atoms[k].x _ _ (hv1.ext Ext.auto) hb1_).mono ?_
      rintro e wq1 ⟨r1, F1, rfl, hO1, hF1_, hy⟩
      have hq1 : Ext w3 wq1 := Ext.trans Ext.auto hy
      have hF1 : Fr w3 wq1 F1 := hF1_.mk1 (by simp) (Nat.le_refl _)
      have hsq1 := hq1.size
      clear hF1_ hy
      obtain ⟨B1, d1, rfl, -, -⟩ := hO1.sl.form
      refine hK.out _ _ hq1 ?_
      clear hK
      (try simp only [Act.put, List.setIfInBounds_toArray, List.set_cons_zero, List.set_cons_succ])
      refine Plan.chain_step rfl (fun K hK => ?_)
      go_simp
      refine (clonePol_any t.atoms[k].y _ _ (hv2.ext (hq1.trans Ext.auto)) hb2_).mono ?_
      rintro e wq2 ⟨r2, F2, rfl, hO2, hF2_, hy⟩
      have hq2 : Ext wq1 wq2 := Ext.trans Ext.auto hy
      have hF2 : Fr wq1 wq2 F2 := hF2_.mk1 (by simp) (Nat.le_refl _)
      have hsq2 := hq2.size
      clear hF2_ hy
      obtain ⟨B2, d2, rfl, -, -⟩ := hO2.sl.form
      refine hK.out _ _ (hq1.trans hq2) ?_
      clear hK
      (try simp only [Act.put, List.setIfInBounds_toArray, List.set_cons_zero, List.set_cons_succ])
      (refine Plan.float_step (v := ?_) rfl (by rfl) (fun _ _ _ h => h) (fun w' hSw => ?_) ?_; rotate_left; · (go_simp; try with_reducible rfl)); (try simp only [Act.put, List.setIfInBounds_toArray, List.set_cons_zero, List.set_cons_succ])
      have hxb : Ext w3 wq2 := hq1.trans hq2
      have hsb := hxb.size
      have hP1 := OwnSl.up hO1 hF1 hq2
      have hFF : Fr w3 wq2 (F1 ++ F2) := Fr.mk2 (w := w3) (w' := wq2) hF1 hF2 (by omega) (by omega) (by omega) (by omega) (by omega)
      have hBZ : Bx (wq2.alloc (.cells #[.int .i64 (t.atoms[k].kind), .int .i64 (t.atoms[k].k), .slice B1 t.atoms[k].x.monos.length d1, .slice B2 t.atoms[k].y.monos.length d2] 30)) (w0.heap.size) [.slice A7 Lk.length c7] := Bx.alloc (hxb.bx hBx_3 (by omega)) (by omega) _ _
      have hFZ : ∀ oo, (wq2.alloc (.cells #[.int .i64 (t.atoms[k].kind), .int .i64 (t.atoms[k].k), .slice B1 t.atoms[k].x.monos.length d1, .slice B2 t.atoms[k].y.monos.length d2] 30)).frozen? ⟨w0.heap.size, oo, none⟩ = false := fz_alloc (fun oo => (hxb.frozen (by omega)).trans (hFx_3 oo)) (by omega) _
      refine Plan.chain_step rfl (fun K hK => ?_)
      go_simp
      refine hK.out _ _ (hxb.alloc _) ?_
      clear hK
      (try simp only [Act.put, List.setIfInBounds_toArray, List.set_cons_zero, List.set_cons_succ])
      refine Plan.tail_step ?_
      simp only [List.drop_succ_cons, List.drop_zero]
      clear hS
      refine wpList_append_push2 (w0 := w) (wr := w2) rfl _ _ 23 rfl i0a _ 64 Try.underlying23 HIa.out HZ0a.out HZ1a.out HZ2a.out rfl (by decide) hA rfl (t.atoms[k]) #[.int .i64 (t.atoms[k].kind), .int .i64 (t.atoms[k].k), .slice B1 t.atoms[k].x.monos.length d1, .slice B2 t.atoms[k].y.monos.length d2] 30 ((F1 ++ F2)) _ rfl (hx3.trans hxb) ⟨_, _, F1, F2, rfl, hk0, hP1, hO2, rfl⟩ (hFF.down hx3) (by repeat (first | (exact fun _ h => absurd h (List.not_mem_nil)) | (refine List.forall_mem_cons.2 ⟨rfl, ?_⟩))) (by unfold maxLen; omega) (by omega) ?_
      intro v' wq9 xs' hA9 hg9 hb9
      have hz9 := hg9.size
      have hne9 : some (w0.heap.size) ≠ (Value.ownBlock (.slice A7 Lk.length c7)) := fun q => by have := hvo _ q.symm; omega
      have hBx9 := (show Bx (wq2.alloc (.cells #[.int .i64 (t.atoms[k].kind), .int .i64 (t.atoms[k].k), .slice B1 t.atoms[k].x.monos.length d1, .slice B2 t.atoms[k].y.monos.length d2] 30)) (w0.heap.size) [.slice A7 Lk.length c7] from hBZ).grown hg9 (by simp; omega) hne9
      have hFx9 := fz_grown (show ∀ oo, (wq2.alloc (.cells #[.int .i64 (t.atoms[k].kind), .int .i64 (t.atoms[k].k), .slice B1 t.atoms[k].x.monos.length d1, .slice B2 t.atoms[k].y.monos.length d2] 30)).frozen? ⟨w0.heap.size, oo, none⟩ = false from hFZ) hg9 (by simp; omega) hne9
      have yz9 : w0.heap.size < wq9.heap.size := by simp at hz9; omega
      have xz0 := hBx9 0 _ rfl
      have hvo9 : ∀ q, v'.ownBlock = some q → w1.heap.size ≤ q := fun q hq => by
        rcases hb9 with hb | hb
        · exact hvo q (hb ▸ hq)
        · rw [hb] at hq; injection hq with hq; simp at hq; omega
      obtain ⟨L9, hL9⟩ : ∃ L9, L9 = Lk ++ [t.atoms[k]] := ⟨_, rfl⟩
      rw [← hL9] at hA9
      have HL9 := hide hL9
      clear hL9
      obtain ⟨F9, hO9, -⟩ := hA9.done
      obtain ⟨A9, c9, rfl, -, -⟩ := hO9.sl.form
      clear hO9
      have hsz9 : w3.heap.size ≤ wq9.heap.size := by simp at hz9; omega
      go_wp2
      have hfo9 : ∀ z, z ∈ (Fs ++ [F1 ++ F2]).flatten → w1.heap.size ≤ z := fun z hz => by
        rw [List.flatten_append] at hz
        rcases List.mem_append.1 hz with hz | hz
        · exact hfo z hz
        · have := (hFF.2 z (by simpa using hz)).1; omega
      have hA8 := App.set hA9 (p := ⟨w0.heap.size, 0, none⟩) (.slice A9 L9.length c9) (fun q => by have := hvo9 _ q; simp at this; omega) (fun hm => by have := hfo9 _ hm; simp at this; omega) (by simp; omega)
      have hBx8 : Bx (wq9.setCell ⟨w0.heap.size, 0, none⟩ (.slice A9 L9.length c9)) (w0.heap.size) [.slice A9 L9.length c9] := by have := Bx.put hBx9 (j := 0) (by simp) (.slice A9 L9.length c9); simpa using this
      have hBres_8 : Bx (wq9.setCell ⟨w0.heap.size, 0, none⟩ (.slice A9 L9.length c9)) (w.heap.size + 1) [.slice none 0 0] := Bx.setCell ((show Bx (wq2.alloc (.cells #[.int .i64 (t.atoms[k].kind), .int .i64 (t.atoms[k].k), .slice B1 t.atoms[k].x.monos.length d1, .slice B2 t.atoms[k].y.monos.length d2] 30)) _ _ from Bx.alloc (hxb.bx hBres_3 (by omega)) (by omega) _ _).grown hg9 (by simp; omega) (fun q => by have := hvo _ q.symm; omega)) (by simp; omega) _
      have hFres_8 : ∀ oo, (wq9.setCell ⟨w0.heap.size, 0, none⟩ (.slice A9 L9.length c9)).frozen? ⟨w.heap.size + 1, oo, none⟩ = false := fz_set (fz_grown (show ∀ oo, (wq2.alloc (.cells #[.int .i64 (t.atoms[k].kind), .int .i64 (t.atoms[k].k), .slice B1 t.atoms[k].x.monos.length d1, .slice B2 t.atoms[k].y.monos.length d2] 30)).frozen? ⟨w.heap.size + 1, oo, none⟩ = false from fz_alloc (fun oo => (hxb.frozen (by omega)).trans (hFres_3 oo)) (by omega) _) hg9 (by simp; omega) (fun q => by have := hvo _ q.symm; omega)) _ _
      go_roundw
      case rel => exact ⟨k + 1, _, _, _, by omega, by go_num, by rw [HT.out, ← HLk.out, ← HL9.out]; exact hA8, hvo9, hfo9, hA8.ext, by simp; omega, hBx8, fz_set hFx9 _ _, hBres_8, hFres_8⟩
      case measure => simp [intOf]; omega
    · 
      obtain rfl : k = t.atoms.length := by omega
      rw [List.take_length] at hA
      obtain ⟨F, hO, hF, hOut_⟩ := App.doneLo hA hvo hfo
      have hO' := hO
      obtain ⟨B9, d9, rfl, -, -⟩ := hO.sl.form
      have yx : w0.heap.size < w2.heap.size := by omega
      have xx0 : w2.cell? ⟨w0.heap.size, 0, none⟩ = some (.slice B9 t.atoms.length d9) := hBx_2 0 _ rfl
      have yres : w.heap.size + 1 < w2.heap.size := by omega
      have xres0 : w2.cell? ⟨w.heap.size + 1, 0, none⟩ = some (.slice none 0 0) := hBres_2 0 _ rfl
      have fres := hFres_2
      go_wp2
      refine bodyPost_ret (v := .agg #[.slice B9 t.atoms.length d9]) (by simp [results, Try.results28, go_sem, xres0]) rfl ⟨_, F, rfl, OwnSl.stay hO (fun z hz => by
          have q := hF.2 z hz; have h1 := hOut_ z hz
          repeat (first | rw [heap_set _ _ _ _ (by show _ ≠ z; omega)] | rw [heap_set _ _ _ _ (by simp; omega)])), hF.mk1 (Nat.le_refl _) (by simp), Ext.hold he2⟩

end Go.Proofs.Ytmbclopkopfngaa
