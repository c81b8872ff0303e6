/-
  Instructions as operations: the program.
-/
import Derived.Test.YtokibcicoomceaaDoorLowB
import Derived.Test.YtokibcicoomceaaDoorLowJ
import Derived.Test.YtokibcicoomceaaDoorBlkOkI
import Derived.Deep.DeepCutAuto
namespace Go.Proofs.YtokibcicoomceaaDoor
open Go.RowKit

set_option linter.unusedVariables false
set_option linter.unusedSimpArgs false
set_option maxRecDepth 100000

set_option maxHeartbeats 1000000 in
theorem cloneBlock_any (o : IrBlock) (v1 : Value) (w : World) (h : Sl w (Old w) v1 o.ops) (hn : o.ops.length ≤ 4194304) :
    Calls Tryd.prog 54 #[.agg #[.int .i64 o.pc, .int .i64 o.len, v1, .int .i64 o.fin, .int .i64 o.x, .int .i64 o.y, .int .i64 o.k]] w fun e w' => ∃ r1 F, e = .returned (.agg #[.int .i64 o.pc, .int .i64 o.len, r1, .int .i64 o.fin, .int .i64 o.x, .int .i64 o.y, .int .i64 o.k]) ∧ OwnSl w' r1 o.ops F ∧ Fr w w' F ∧ Ext w w' := by
  obtain ⟨A, c, rfl, hl, hm⟩ := h.form
  obtain ⟨i0, hi, hz0, hz1, hz2⟩ := info_parts infIrOp
  have HI := hide hi
  have HZ0 := hide hz0
  have HZ1 := hide hz1
  have HZ2 := hide hz2
  clear hi hz0 hz1 hz2
  go_enter Tryd.func54, Tryd.ntmps54
  go_wp2_with (at_builtin; refine wpList_append_flat (α := IrOp) rfl _ _ 32 rfl i0 _ 40 Tryd.underlying32 HI.out HZ0.out HZ1.out HZ2.out rfl (App.nil _ 76) rfl _ o.ops (Old w) rfl (h.keep (Ext.old (Ext.auto)) (fun _ h => h)) (by simp [maxLen]; omega) (by simp; omega) ?_; intro v' w1 Fs' xs' hA; obtain ⟨F, hO, hF⟩ := hA.done; have hx1 := hA.ext; clear hA; obtain ⟨B1, d1, rfl, -, -⟩ := hO.sl.form; have hs1 := hx1.size; try simp at hs1; have he1 : Ext w w1 := Ext.trans (Ext.auto) hx1; have hc1 := fun b o (hb : b < w.heap.size + 1 + 1) => hx1.cell (b := b) (o := o) (by first | omega | (simp; omega)); have hg1 := fun b o (hb : b < w.heap.size + 1 + 1) => hx1.frozen (b := b) (o := o) (by first | omega | (simp; omega)); have hcell : w1.cell? ⟨w.heap.size, 2, none⟩ = some (.slice A o.ops.length c) := by rw [hc1 _ _ (by omega)]; simp [go_sem])
  refine bodyPost_ret (v := .agg #[.int .i64 o.pc, .int .i64 o.len, .slice B1 o.ops.length d1, .int .i64 o.fin, .int .i64 o.x, .int .i64 o.y, .int .i64 o.k]) (by simp [results, Tryd.results54, go_sem, hc1, hg1]) rfl ⟨_, F, rfl, ?_, ?_, ?_⟩
  · exact OwnSl.stay hO (fun b hb => by
      have q := hF.2 b hb; have q1 := q.1; have q2 := q.2; simp at q1 q2
      repeat (first | rw [heap_set _ _ _ _ (by simp; omega)]))
  · exact Fr.mk1 hF (by simp; try omega) (by simp; try omega)
  · exact (Ext.hold he1)

set_option maxHeartbeats 16000000 in
theorem implBlkLower_p (pc : Int) (list : List InsIns) (v : Value) (w : World) (h : Sl w (Old w) v list) (hp : Fits pc) (lf : Nat) (hF : Forms lf w) :
    Calls Tryd.prog 15 #[.int .i64 pc, v] w fun e w' => ∃ (r1 : Value) (F : List Nat), e = .returned (.agg #[.int .i64 ((blkLower pc list).pc), .int .i64 ((blkLower pc list).len), r1, .int .i64 ((blkLower pc list).fin), .int .i64 ((blkLower pc list).x), .int .i64 ((blkLower pc list).y), .int .i64 ((blkLower pc list).k)]) ∧ OwnSl w' r1 (blkLower pc list).ops F ∧ Fr w w' F ∧ Ext w w' := by
  obtain ⟨Al, cl, rfl, hll, hml⟩ := h.form
  unfold maxLen at hml
  go_enter Tryd.func15, Tryd.ntmps15
  go_upto_region 1 with fail
  have he0 : Ext w (w.alloc (Obj.cells #[.int .i64 0, .int .i64 0, .slice none 0 0, .int .i64 0, .int .i64 0, .int .i64 0, .int .i64 0] 34)) := (Ext.auto)
  have hs0 : w.heap.size + 1 ≤ ((w.alloc (Obj.cells #[.int .i64 0, .int .i64 0, .slice none 0 0, .int .i64 0, .int .i64 0, .int .i64 0, .int .i64 0] 34))).heap.size := by simp
  have hq0 := hide (show ((w.alloc (Obj.cells #[.int .i64 0, .int .i64 0, .slice none 0 0, .int .i64 0, .int .i64 0, .int .i64 0, .int .i64 0] 34))).heap.size = w.heap.size + 1 by simp)
  have hBres_0 : Bx (w.alloc (Obj.cells #[.int .i64 0, .int .i64 0, .slice none 0 0, .int .i64 0, .int .i64 0, .int .i64 0, .int .i64 0] 34)) (w.heap.size) [.int .i64 0, .int .i64 0, .slice none 0 0, .int .i64 0, .int .i64 0, .int .i64 0, .int .i64 0] := (by have := (Bx.new w #[.int .i64 0, .int .i64 0, .slice none 0 0, .int .i64 0, .int .i64 0, .int .i64 0, .int .i64 0] 34); simpa using this)
  have hFres_0 : ∀ oo, ((w.alloc (Obj.cells #[.int .i64 0, .int .i64 0, .slice none 0 0, .int .i64 0, .int .i64 0, .int .i64 0, .int .i64 0] 34))).frozen? ⟨w.heap.size, oo, none⟩ = false := fun oo => by simp
  generalize (w.alloc (Obj.cells #[.int .i64 0, .int .i64 0, .slice none 0 0, .int .i64 0, .int .i64 0, .int .i64 0, .int .i64 0] 34)) = w0 at *
  have hG : Gro 76 w.heap.size w0 (.slice none 0 0) ([] : List IrOp) := Gro.nil _ _ _
  have k_res : Bk (.slice none 0 0) w0 _ _ := ⟨hBres_0, hFres_0, (fun q hq e => by simp [Value.ownBlock] at hq), by omega⟩
  clear hBres_0 hFres_0
  cases q0 : blkOkB pc list
  · 
    have HC := hide (show blkLower pc list = lowNone by unfold blkLower; rw [if_neg (by rw [q0]; simp)])
    go_wp2_with fail
    refine (implBlkOk_any pc list _ _ (h.ext he0) hp lf (hF.ext he0)).mono ?_
    rintro e w1 ⟨rfl, hy⟩
    rw [q0]
    have hs1 := hy.size
    replace hG := hG.ext hy
    replace k_res := k_res.ext hy
    have he1 := he0.trans hy
    clear hy
    have yres := k_res.lt
    have xres0 := k_res.bx 0 _ rfl
    have xres1 := k_res.bx 1 _ rfl
    have xres2 := k_res.bx 2 _ rfl
    have xres3 := k_res.bx 3 _ rfl
    have xres4 := k_res.bx 4 _ rfl
    have xres5 := k_res.bx 5 _ rfl
    have xres6 := k_res.bx 6 _ rfl
    have fres := k_res.fz
    go_wp2
    refine bodyPost_ret (v := .agg #[.int .i64 0, .int .i64 0, .slice none 0 0, .int .i64 0, .int .i64 0, .int .i64 0, .int .i64 0]) (by simp [results, Tryd.results15, go_sem, xres0, xres1, xres2, xres3, xres4, xres5, xres6]) rfl ?_
    rw [HC.out]
    exact ⟨_, [], rfl, OwnSl.nil _, Fr.nil _ _, Ext.hold he1⟩
  · 
    have HQ := hide q0
    have hbk := blkOk_iff.1 q0
    have hl1 := hbk.1.1
    have hl8 := hbk.1.2
    have hp0 := hbk.2.1.1
    have hp1 := hbk.2.1.2
    clear hbk
    have HC := hide (show blkLower pc list = lowGo (lowStart pc list.length) 0 list by unfold blkLower; rw [if_pos q0])
    have zw : IntKind.i64.wrap (pc + (list.length : Int)) = pc + (list.length : Int) := by rw [IntKind.wrap_i64]; omega
    go_wp2_with fail
    refine (implBlkOk_any pc list _ _ (h.ext he0) hp lf (hF.ext he0)).mono ?_
    rintro e w1 ⟨rfl, hy⟩
    rw [q0]
    have hs1 := hy.size
    replace hG := hG.ext hy
    replace k_res := k_res.ext hy
    have he1 := he0.trans hy
    clear hy
    clear q0
    go_upto_region 4 with fail
    generalize ho : Obj.cells #[.int .i64 pc, .int .i64 ((list.length : Int)), (.slice none 0 0), .int .i64 1, .int .i64 0, .int .i64 0, .int .i64 ((pc + (list.length : Int))), .int .i64 0] 72 = o
    have k_bld := Bk.new hG ho
    replace hG := hG.alloc o
    replace k_res := k_res.alloc o
    have hE2 : Ext w (w1.alloc o) := Ext.hold he1
    have hs2 : w1.heap.size + 1 ≤ (w1.alloc o).heap.size := by simp
    generalize w1.alloc o = w2 at *
    clear ho
    obtain ⟨bb, hbb⟩ : ∃ bb, bb = w1.heap.size := ⟨_, rfl⟩
    rw [← hbb] at k_bld ⊢
    have hbw : w.heap.size ≤ bb := by have := he1.size; omega
    have hbr : w.heap.size < bb := by omega
    clear hbb
    have hK : Grew [bb] (.slice none 0 0) (.slice none 0 0) w w2 := (Grew.refl _ _ _).ext hE2
    clear hE2
    go_wp2
    go_loopw [6, 7, 25] (fun _ _ vk wz => ∃ (k : Nat) (A : Option Addr) (c : Nat) (L : List IrOp) (fin x y k9 at9 : Int), vk = .int .i64 (k : Int) ∧ k ≤ list.length ∧ Hid ((⟨pc, (list.length : Int), L, fin, x, y, k9⟩ : IrBlock) = lowGo (lowStart pc list.length) 0 (list.take k)) ∧ L.length ≤ 5 * k ∧ (Fits fin ∧ Fits x ∧ Fits y ∧ Fits k9) ∧ Gro 76 w.heap.size wz (.slice A L.length c) L ∧ Grew [bb] (.slice none 0 0) (.slice A L.length c) w wz ∧ Bk (.slice A L.length c) wz bb [.int .i64 pc, .int .i64 ((list.length : Int)), (.slice A L.length c), .int .i64 fin, .int .i64 x, .int .i64 y, .int .i64 k9, .int .i64 at9] ∧ Bk (.slice A L.length c) wz (w.heap.size) [.int .i64 0, .int .i64 0, .slice none 0 0, .int .i64 0, .int .i64 0, .int .i64 0, .int .i64 0] ∧ w2.heap.size ≤ wz.heap.size) (fun _ _ vk _ => list.length - (intOf vk).toNat)
    case atStart => exact ⟨0, none, 0, [], 1, 0, 0, pc + (list.length : Int), 0, rfl, by omega, rfl, by simp, ⟨by unfold Fits; omega, by unfold Fits; omega, by unfold Fits; omega, by unfold Fits; omega⟩, hG, hK, k_bld, k_res, Nat.le_refl _⟩
    case round =>
      obtain ⟨w3, hwr⟩ : ∃ w3 : World, w3 = wr := ⟨_, rfl⟩
      subst hwr
      clear hG hK k_bld k_res
      obtain ⟨k, A, c, L, fin, x, y, k9, at9, rfl, hkl, HL, hL5, hb, hG, hK, k_bld, k_res, hs3⟩ := hrel
      have hE : Ext w w3 := hK.toExt (Ext.refl w) (by simpa using hbw) (fun q hq => by simp [Value.ownBlock] at hq)
      have hsw := hE.size
      have hbl := k_bld.lt
      by_cases hlt : k < list.length
      · 
        have hri := okAt_ins HQ.out hlt
        have HN := hide (lowGo_next (b := lowStart pc list.length) hlt)
        have r := hri.1
        have r1 := hri.2
        have r2 := r.o1
        have r3 := r.d0
        have r4 := r.d1
        have r5 := r.a0
        have r6 := r.a1
        have r7 := r.k0
        have r8 := r.k1
        have r9 := r.shift
        clear r hri
        obtain ⟨bl, off, rfl, hbo, hk0, e0, e1, e2, e3⟩ := at_InsIns (h.ext hE) hlt
        have hbo' : bl < w3.heap.size := hbo
        have z0 : (0 : Int) ≤ (k : Int) := by omega
        have z1 : (k : Int) < (list.length : Int) := by omega
        go_upto_region 7 with fail
        generalize ho : Obj.cells #[.int .i64 list[k].op, .int .i64 list[k].d, .int .i64 list[k].a, .int .i64 list[k].k] 30 = o
        have k_i := Bk.new hG ho
        replace hK := hK.alloc o
        replace hG := hG.alloc o
        replace k_bld := k_bld.alloc o
        replace k_res := k_res.alloc o
        have hs4 : w3.heap.size + 1 ≤ (w3.alloc o).heap.size := by simp
        generalize w3.alloc o = w4 at *
        clear ho e0 e1 e2 e3
        have ybld := k_bld.lt
        have xbld0 := k_bld.bx 0 _ rfl
        have xbld1 := k_bld.bx 1 _ rfl
        have xbld2 := k_bld.bx 2 _ rfl
        have xbld3 := k_bld.bx 3 _ rfl
        have xbld4 := k_bld.bx 4 _ rfl
        have xbld5 := k_bld.bx 5 _ rfl
        have xbld6 := k_bld.bx 6 _ rfl
        have xbld7 := k_bld.bx 7 _ rfl
        have fbld := k_bld.fz
        go_upto_region 8 with fail
        clear xbld0 xbld1 xbld2 xbld3 xbld4 xbld5 xbld6 xbld7 ybld
        clear fbld
        have k_b2 : Bk _ (w4.setCell ⟨bb, 7, none⟩ (.int .i64 (k : Int))) bb [.int .i64 pc, .int .i64 ((list.length : Int)), (.slice A L.length c), .int .i64 fin, .int .i64 x, .int .i64 y, .int .i64 k9, .int .i64 ((k : Int))] := k_bld.put (j := 7) (by simp) (.int .i64 (k : Int))
        replace hK := hK.set (p := ⟨bb, 7, none⟩) (.inr (by simp)) (.int .i64 (k : Int))
        replace hG := hG.set (p := ⟨bb, 7, none⟩) (by exact k_bld.ne) (.int .i64 (k : Int))
        replace k_i := k_i.set (p := ⟨bb, 7, none⟩) (by simp; omega) (.int .i64 (k : Int))
        replace k_res := k_res.set (p := ⟨bb, 7, none⟩) (by simp; omega) (.int .i64 (k : Int))
        clear k_bld
        have hs5 : w4.heap.size ≤ (w4.setCell ⟨bb, 7, none⟩ (.int .i64 (k : Int))).heap.size := by simp
        generalize (w4.setCell ⟨bb, 7, none⟩ (.int .i64 (k : Int))) = w5 at *
        have k_bld := k_b2
        clear k_b2
        have yi := k_i.lt
        have xi0 := k_i.bx 0 _ rfl
        have xi1 := k_i.bx 1 _ rfl
        have xi2 := k_i.bx 2 _ rfl
        have xi3 := k_i.bx 3 _ rfl
        have fi := k_i.fz
        go_wp2_with fail
        clear xi0 xi1 xi2 xi3 yi
        clear fi
        refine (bLower_any pc (list.length : Int) fin x y k9 (k : Int) L w.heap.size bb _ list[k].op list[k].d list[k].a list[k].k _ hG (by omega) (by omega) ⟨z0, by omega⟩ k_bld ⟨r1, r2⟩ (fun e => by have := r9 e; omega) ⟨r3, r4⟩ ⟨r5, r6⟩ ⟨r7, r8⟩ hb).mono ?_
        rintro e w6 ⟨A9, c9, L9, f9, x9, y9, k9', rfl, hL9, hb9, hG9, hy, kb9⟩
        have hs6 := hy.size
        have HL9 := hide (show (⟨pc, (list.length : Int), L9, f9, x9, y9, k9'⟩ : IrBlock) = lowGo (lowStart pc list.length) 0 (list.take (k + 1)) by rw [HN.out, ← HL.out]; exact hL9)
        have hl9 : L9.length ≤ L.length + 5 := by have := lowStep_len ⟨pc, (list.length : Int), L, fin, x, y, k9⟩ ⟨list[k].op, list[k].d, list[k].a, list[k].k⟩ (k : Int); rw [← hL9] at this; exact this
        replace hK := hK.trans hy
        replace k_res := k_res.grewX hy (by simp; omega)
        clear hL9 hy hG k_bld HL k_i
        go_wp2
        go_round
        case rel => exact ⟨k + 1, A9, c9, L9, f9, x9, y9, k9', k, by go_num, by omega, HL9, by omega, hb9, hG9, hK, kb9, k_res, by omega⟩
        case measure => (simp [intOf]; try omega)
      · 
        obtain rfl : k = list.length := by omega
        have HF := hide (show blkLower pc list = ⟨pc, (list.length : Int), L, fin, x, y, k9⟩ by rw [HC.out, HL.out, List.take_length])
        have ybld := k_bld.lt
        have xbld0 := k_bld.bx 0 _ rfl
        have xbld1 := k_bld.bx 1 _ rfl
        have xbld2 := k_bld.bx 2 _ rfl
        have xbld3 := k_bld.bx 3 _ rfl
        have xbld4 := k_bld.bx 4 _ rfl
        have xbld5 := k_bld.bx 5 _ rfl
        have xbld6 := k_bld.bx 6 _ rfl
        have xbld7 := k_bld.bx 7 _ rfl
        have fbld := k_bld.fz
        go_wp2_with fail
        clear xbld0 xbld1 xbld2 xbld3 xbld4 xbld5 xbld6 xbld7 ybld
        clear fbld
        have hsl := hG.sl
        refine (cloneBlock_any ⟨pc, (list.length : Int), L, fin, x, y, k9⟩ _ _ hsl (by simp; omega)).mono ?_
        rintro e w4 ⟨r1, F, rfl, hO, hFr, hy⟩
        have hO' : OwnSl w4 r1 L F := hO
        obtain ⟨A9, c9, rfl, -, -⟩ := hO'.sl.form
        have k_rz := k_res.ext hy
        have hE4 := hE.trans hy
        have hs4 := hy.size
        clear hy hO k_res k_bld
        have yres := k_rz.lt
        have xres0 := k_rz.bx 0 _ rfl
        have xres1 := k_rz.bx 1 _ rfl
        have xres2 := k_rz.bx 2 _ rfl
        have xres3 := k_rz.bx 3 _ rfl
        have xres4 := k_rz.bx 4 _ rfl
        have xres5 := k_rz.bx 5 _ rfl
        have xres6 := k_rz.bx 6 _ rfl
        have fres := k_rz.fz
        go_wp2
        refine bodyPost_ret (v := .agg #[.int .i64 pc, .int .i64 ((list.length : Int)), (.slice A9 L.length c9), .int .i64 fin, .int .i64 x, .int .i64 y, .int .i64 k9]) (by simp [results, Tryd.results15, go_sem, xres0, xres1, xres2, xres3, xres4, xres5, xres6]) rfl ?_
        rw [HF.out]
        refine ⟨_, F, rfl, OwnSl.stay hO' (fun b hb => ?_), hFr.mk1 (by omega) (by simp), Ext.hold hE4⟩
        have q := hFr.2 b hb
        have q1 := q.1
        have q2 := q.2
        repeat (rw [heap_set _ _ _ _ (by simp; omega)])

end Go.Proofs.YtokibcicoomceaaDoor
