/-
  LowB
-/
import Derived.Test.YteaacelfnkiboaaYLowT
import Derived.Test.YteaacelfnkiboaaYBlkOkS
import Derived.Deep.DeepCutAuto
namespace Go.Proofs.Yteaacelfnkiboaa
open Go.RowKit

set_option linter.unusedVariables false
set_option linter.unusedSimpArgs false
set_option maxRecDepth 100000

theorem okAt_ins {l : List InsIns} {pc : Int} (h : blkOkB pc l = true) {k : Nat} (hk : k < l.length) : InsR l[k] ∧ 1 ≤ l[k].op := by
  have hh := (blkOk_iff.1 h).2.2 k hk
  rw [okAt_get hk] at hh
  simp only [Bool.and_eq_true, bne_iff_ne, ne_eq] at hh
  have r := insR hh.1.1
  have := r.o0
  exact ⟨r, by omega⟩
theorem lowStep_len (b : IrBlock) (i : InsIns) (at_ : Int) : (lowStep b i at_).ops.length ≤ b.ops.length + 5 := by
  rw [lowStep_ops, List.length_append]
  have := (lowOps_len b.ops.length i at_).2
  omega
set_option maxHeartbeats 16000000 in
theorem specBlkLowerK_any (pc : Int) (list : List InsIns) (v : Value) (w : World) (h : Sl w (Old w) v list) (hp : Fits pc) :
    Calls Try.prog 81 #[.int .i64 pc, v] w fun e w' => ∃ (A : Option Addr) (c : Nat), e = .returned (.agg #[.int .i64 ((blkLower pc list).pc), .int .i64 ((blkLower pc list).len), .slice A (blkLower pc list).ops.length c, .int .i64 ((blkLower pc list).fin), .int .i64 ((blkLower pc list).x), .int .i64 ((blkLower pc list).y), .int .i64 ((blkLower pc list).k)]) ∧ Gro 58 w.heap.size w' (.slice A (blkLower pc list).ops.length c) (blkLower pc list).ops ∧ Ext w w' ∧ (blkLower pc list).Ok ∧ (blkLower pc list).ops.length ≤ 40 ∧ 0 ≤ (blkLower pc list).len ∧ (blkLower pc list).len ≤ 9 := by
  obtain ⟨Al, cl, rfl, hll, hml⟩ := h.form
  unfold maxLen at hml
  go_enter Try.func81, Try.ntmps81
  go_upto_region 1 with fail
  have he0 : Ext w (w.alloc (Obj.cells #[.int .i64 0, .int .i64 0, .slice none 0 0, .int .i64 0, .int .i64 0, .int .i64 0, .int .i64 0] 25)) := (Ext.auto)
  have hs0 : w.heap.size + 1 ≤ ((w.alloc (Obj.cells #[.int .i64 0, .int .i64 0, .slice none 0 0, .int .i64 0, .int .i64 0, .int .i64 0, .int .i64 0] 25))).heap.size := by simp
  have hq0 := hide (show ((w.alloc (Obj.cells #[.int .i64 0, .int .i64 0, .slice none 0 0, .int .i64 0, .int .i64 0, .int .i64 0, .int .i64 0] 25))).heap.size = w.heap.size + 1 by simp)
  have hBres_0 : Bx (w.alloc (Obj.cells #[.int .i64 0, .int .i64 0, .slice none 0 0, .int .i64 0, .int .i64 0, .int .i64 0, .int .i64 0] 25)) (w.heap.size) [.int .i64 0, .int .i64 0, .slice none 0 0, .int .i64 0, .int .i64 0, .int .i64 0, .int .i64 0] := (by have := (Bx.new w #[.int .i64 0, .int .i64 0, .slice none 0 0, .int .i64 0, .int .i64 0, .int .i64 0, .int .i64 0] 25); simpa using this)
  have hFres_0 : ∀ oo, ((w.alloc (Obj.cells #[.int .i64 0, .int .i64 0, .slice none 0 0, .int .i64 0, .int .i64 0, .int .i64 0, .int .i64 0] 25))).frozen? ⟨w.heap.size, oo, none⟩ = false := fun oo => by simp
  generalize (w.alloc (Obj.cells #[.int .i64 0, .int .i64 0, .slice none 0 0, .int .i64 0, .int .i64 0, .int .i64 0, .int .i64 0] 25)) = w0 at *
  have hK : Grew [] (.slice none 0 0) (.slice none 0 0) w w0 := (Grew.refl _ _ _).ext he0
  have hG : Gro 58 w.heap.size w0 (.slice none 0 0) ([] : List IrOp) := Gro.nil _ _ _
  have k_res : Bk (.slice none 0 0) w0 _ _ := ⟨hBres_0, hFres_0, (fun q hq e => by simp [Value.ownBlock] at hq), by omega⟩
  clear hBres_0 hFres_0
  cases q0 : blkOkB pc list
  · 
    have HC := hide (show blkLower pc list = lowNone by unfold blkLower; rw [if_neg (by rw [q0]; simp)])
    go_wp2_with fail
    refine (specBlkOk_any pc list _ _ (h.ext he0) hp).mono ?_
    rintro e w1 ⟨rfl, hy⟩
    rw [q0]
    have hs1 := hy.size
    have hyg : Grew [] (.slice none 0 0) (.slice none 0 0) w0 w1 := (Grew.refl _ _ _).ext hy
    replace hK := hK.trans hyg
    replace hG := hG.ext hy
    replace k_res := k_res.grew hyg
    clear hy hyg
    have yres := k_res.lt
    have xres0 := k_res.bx 0 _ rfl
    have xres1 := k_res.bx 1 _ rfl
    have xres2 := k_res.bx 2 _ rfl
    have xres3 := k_res.bx 3 _ rfl
    have xres4 := k_res.bx 4 _ rfl
    have xres5 := k_res.bx 5 _ rfl
    have xres6 := k_res.bx 6 _ rfl
    have fres := k_res.fz
    go_wp2
    refine bodyPost_ret (v := .agg #[.int .i64 0, .int .i64 0, .slice none 0 0, .int .i64 0, .int .i64 0, .int .i64 0, .int .i64 0]) (by simp [results, Try.results81, go_sem, xres0, xres1, xres2, xres3, xres4, xres5, xres6]) rfl ?_
    rw [HC.out]
    exact ⟨none, 0, rfl, Gro.nil _ _ _, Ext.hold (hK.toExt (Ext.refl w) (by simp) (fun q hq => by simp [Value.ownBlock] at hq)), by unfold lowNone IrBlock.Ok Fits; simp, by simp [lowNone], by simp [lowNone], by simp [lowNone]⟩
  · 
    have HQ := hide q0
    have hbk := blkOk_iff.1 q0
    have hl1 := hbk.1.1
    have hl8 := hbk.1.2
    have hp0 := hbk.2.1.1
    have hp1 := hbk.2.1.2
    clear hbk
    have HC := hide (show blkLower pc list = lowGo (lowStart pc list.length) 0 list by unfold blkLower; rw [if_pos q0])
    have zw : IntKind.i64.wrap (pc + (list.length : Int)) = pc + (list.length : Int) := by rw [IntKind.wrap_i64]; omega
    go_wp2_with fail
    refine (specBlkOk_any pc list _ _ (h.ext he0) hp).mono ?_
    rintro e w1 ⟨rfl, hy⟩
    rw [q0]
    have hs1 := hy.size
    have hyg : Grew [] (.slice none 0 0) (.slice none 0 0) w0 w1 := (Grew.refl _ _ _).ext hy
    replace hK := hK.trans hyg
    replace hG := hG.ext hy
    replace k_res := k_res.grew hyg
    clear hy hyg
    clear q0
    go_upto_region 4 with fail
    generalize ho : Obj.cells #[.int .i64 pc, .int .i64 ((list.length : Int)), (.slice none 0 0), .int .i64 1, .int .i64 0, .int .i64 0, .int .i64 ((pc + (list.length : Int)))] 25 = o
    have k_b := Bk.new hG ho
    replace hK := hK.alloc o
    replace hG := hG.alloc o
    have hs2 : w1.heap.size + 1 ≤ (w1.alloc o).heap.size := by simp
    replace k_res := k_res.alloc o
    generalize w1.alloc o = w2 at *
    clear ho
    go_wp2
    go_loopw [6] (fun vk wz => ∃ (k : Nat) (A : Option Addr) (c : Nat) (L : List IrOp) (fin x y k9 : Int), vk = .int .i64 (k : Int) ∧ k ≤ list.length ∧ Hid ((⟨pc, (list.length : Int), L, fin, x, y, k9⟩ : IrBlock) = lowGo (lowStart pc list.length) 0 (list.take k)) ∧ L.length ≤ 5 * k ∧ (Fits fin ∧ Fits x ∧ Fits y ∧ Fits k9) ∧ Gro 58 w.heap.size wz (.slice A L.length c) L ∧ Grew [] (.slice none 0 0) (.slice A L.length c) w wz ∧ Bk (.slice A L.length c) wz w1.heap.size [.int .i64 pc, .int .i64 ((list.length : Int)), (.slice A L.length c), .int .i64 fin, .int .i64 x, .int .i64 y, .int .i64 k9] ∧ Bk (.slice A L.length c) wz (w.heap.size) [.int .i64 0, .int .i64 0, .slice none 0 0, .int .i64 0, .int .i64 0, .int .i64 0, .int .i64 0] ∧ w2.heap.size ≤ wz.heap.size) (fun vk _ => list.length - (intOf vk).toNat)
    case atStart => exact ⟨0, none, 0, [], 1, 0, 0, pc + (list.length : Int), rfl, by omega, rfl, by simp, ⟨by unfold Fits; omega, by unfold Fits; omega, by unfold Fits; omega, by unfold Fits; omega⟩, hG, hK, k_b, k_res, Nat.le_refl _⟩
    case round =>
      obtain ⟨w3, hwr⟩ : ∃ w3 : World, w3 = wr := ⟨_, rfl⟩
      subst hwr
      clear hG hK k_b k_res
      obtain ⟨k, A, c, L, fin, x, y, k9, rfl, hkl, HL, hL5, hb, hG, hK, k_b, k_res, hs3⟩ := hrel
      have hE : Ext w w3 := hK.toExt (Ext.refl w) (by simp) (fun q hq => by simp [Value.ownBlock] at hq)
      have hsw := hE.size
      by_cases hlt : k < list.length
      · 
        have hri := okAt_ins HQ.out hlt
        have HN := hide (lowGo_next (b := lowStart pc list.length) hlt)
        have r := hri.1
        have r1 := hri.2
        have r2 := r.o1
        have r3 := r.d0
        have r4 := r.d1
        have r5 := r.a0
        have r6 := r.a1
        have r7 := r.k0
        have r8 := r.k1
        have r9 := r.shift
        clear r hri
        obtain ⟨bl, off, rfl, hbo, hk0, e0, e1, e2, e3⟩ := at_InsIns (h.ext hE) hlt
        have hbo' : bl < w3.heap.size := hbo
        have z0 : (0 : Int) ≤ (k : Int) := by omega
        have z1 : (k : Int) < (list.length : Int) := by omega
        have q1 : decide ((k : Int) < (list.length : Int)) = true := decide_eq_true z1
        have yb := k_b.lt
        have xb0 := k_b.bx 0 _ rfl
        have xb1 := k_b.bx 1 _ rfl
        have xb2 := k_b.bx 2 _ rfl
        have xb3 := k_b.bx 3 _ rfl
        have xb4 := k_b.bx 4 _ rfl
        have xb5 := k_b.bx 5 _ rfl
        have xb6 := k_b.bx 6 _ rfl
        have fb := k_b.fz
        go_upto_region 7 with fail
        have hS : ∀ w', Ext w3 w' → ∀ bb oo, bb < w3.heap.size → w'.cell? ⟨bb, oo, none⟩ = w3.cell? ⟨bb, oo, none⟩ := fun w' hx bb oo hb => hx.cell hb
        refine wp_region_plan (fun w' => Ext w3 w') 6 (.float 0 (.float 1 (.float 2 (.float 3 (.float 4 (.float 5 (.tail 6))))))) (by kernel_rfl) (by kernel_rfl) (Ext.refl _).drew ?_
        iterate 6 ((refine Plan.float_step (v := ?_) rfl (by rfl) (fun _ _ _ h => h) (fun w' hSw => ?_) ?_; rotate_left; · (go_simp; try with_reducible rfl)); (try simp only [Act.put, List.setIfInBounds_toArray, List.set_cons_zero, List.set_cons_succ]))
        refine Plan.tail_step ?_
        simp only [List.drop_succ_cons, List.drop_zero]
        clear hS
        clear xb0 xb1 xb2 xb3 xb4 xb5 xb6 yb
        clear fb
        go_wp2_with fail
        refine (l7One_any pc (list.length : Int) fin x y k9 L w.heap.size _ list[k].op list[k].d list[k].a list[k].k (k : Int) _ hG.drew (by omega) (by simp; omega) ⟨r1, r2⟩ (fun e => by have := r9 e; omega) ⟨r3, r4⟩ ⟨r5, r6⟩ ⟨r7, r8⟩ ⟨z0, by omega⟩ hb).mono ?_
        rintro e w4 ⟨A9, c9, L9, f9, x9, y9, k9', rfl, hL9, hb9, hG9, hy⟩
        have hs4 := hy.size
        have hs4' : w3.heap.size ≤ w3.drew.heap.size := Nat.le_refl _
        have HL9 := hide (show (⟨pc, (list.length : Int), L9, f9, x9, y9, k9'⟩ : IrBlock) = lowGo (lowStart pc list.length) 0 (list.take (k + 1)) by rw [HN.out, ← HL.out]; exact hL9)
        have hl9 : L9.length ≤ L.length + 5 := by have := lowStep_len ⟨pc, (list.length : Int), L, fin, x, y, k9⟩ ⟨list[k].op, list[k].d, list[k].a, list[k].k⟩ (k : Int); rw [← hL9] at this; exact this
        replace hK := (hK.drew).trans hy
        replace k_b := k_b.drew.grew hy
        replace k_res := k_res.drew.grew hy
        clear hL9 hy hG e0 e1 e2 e3 HL
        have yb := k_b.lt
        have xb0 := k_b.bx 0 _ rfl
        have xb1 := k_b.bx 1 _ rfl
        have xb2 := k_b.bx 2 _ rfl
        have xb3 := k_b.bx 3 _ rfl
        have xb4 := k_b.bx 4 _ rfl
        have xb5 := k_b.bx 5 _ rfl
        have xb6 := k_b.bx 6 _ rfl
        have fb := k_b.fz
        go_wp2
        go_round
        case rel => exact ⟨k + 1, A9, c9, L9, f9, x9, y9, k9', by go_num, by omega, HL9, by omega, hb9, Gro.hold hG9, Grew.hold hK, ⟨k_b.bx.store7 rfl (.int .i64 pc) (.int .i64 ((list.length : Int))) ((.slice A9 L9.length c9)) (.int .i64 f9) (.int .i64 x9) (.int .i64 y9) (.int .i64 (k9')), fz_hold k_b.fz, k_b.ne, by simp; omega⟩, Bk.hold k_res, by simp; omega⟩
        case measure => (simp [intOf]; try omega)
      · 
        obtain rfl : k = list.length := by omega
        have HF := hide (show blkLower pc list = ⟨pc, (list.length : Int), L, fin, x, y, k9⟩ by rw [HC.out, HL.out, List.take_length])
        have q1 : decide ((list.length : Int) < (list.length : Int)) = false := decide_eq_false (by omega)
        have yb := k_b.lt
        have xb0 := k_b.bx 0 _ rfl
        have xb1 := k_b.bx 1 _ rfl
        have xb2 := k_b.bx 2 _ rfl
        have xb3 := k_b.bx 3 _ rfl
        have xb4 := k_b.bx 4 _ rfl
        have xb5 := k_b.bx 5 _ rfl
        have xb6 := k_b.bx 6 _ rfl
        have fb := k_b.fz
        have yres := k_res.lt
        have xres0 := k_res.bx 0 _ rfl
        have xres1 := k_res.bx 1 _ rfl
        have xres2 := k_res.bx 2 _ rfl
        have xres3 := k_res.bx 3 _ rfl
        have xres4 := k_res.bx 4 _ rfl
        have xres5 := k_res.bx 5 _ rfl
        have xres6 := k_res.bx 6 _ rfl
        have fres := k_res.fz
        go_wp2
        refine bodyPost_ret (v := .agg #[.int .i64 pc, .int .i64 ((list.length : Int)), (.slice A L.length c), .int .i64 fin, .int .i64 x, .int .i64 y, .int .i64 k9]) (by simp [results, Try.results81, go_sem, xres0, xres1, xres2, xres3, xres4, xres5, xres6]) rfl ?_
        rw [HF.out]
        exact ⟨A, c, rfl, Gro.hold hG, Ext.hold hE, ⟨hp, by show Fits (list.length : Int); unfold Fits; omega, hb.1, hb.2.1, hb.2.2.1, hb.2.2.2⟩, by show L.length ≤ 40; omega, by show (0 : Int) ≤ (list.length : Int); omega, by show (list.length : Int) ≤ 9; omega⟩

end Go.Proofs.Yteaacelfnkiboaa
