/-
  Operations are added to a piece of code: the program.
-/
import Derived.Test.YtokibcicoomceaaDoorOpLib
import Derived.Test.YtokibcicoomceaaDoorInsI
import Derived.Test.YtokibcicoomceaaDoorDrawI
import Derived.Deep.DeepCutAuto
namespace Go.Proofs.YtokibcicoomceaaDoor
open Go.RowKit

set_option linter.unusedVariables false
set_option linter.unusedSimpArgs false
set_option maxRecDepth 100000

theorem event_any (kd ox oy ok oa : Int) (w : World) : Calls Tryd.prog 55 #[.agg #[.int .i64 kd, .int .i64 ox, .int .i64 oy, .int .i64 ok, .int .i64 oa]] w fun e w' => e = .returned (.bool (inB kd 4 7)) ∧ Ext w w' := by
  go_enter Tryd.func55, Tryd.ntmps55
  go_wp2_with (go_at_call 47; refine (in_any _ _ _ _).mono ?_; rintro e w' ⟨rfl, rfl⟩)
  go_ret
  exact ⟨rfl, Ext.auto⟩

set_option maxHeartbeats 16000000 in
theorem bOp_any (pc ln fin x y k at_ : Int) (L : List IrOp) (lo bb : Nat) (v : Value) (kd ox oy ok oa : Int) (w : World) (hG : Gro 76 lo w v L) (hlen : L.length ≤ 1000) (hlo : lo ≤ w.heap.size) (hat : 0 ≤ at_ ∧ at_ ≤ 1000) (k_bld : Bk v w bb [.int .i64 pc, .int .i64 ln, v, .int .i64 fin, .int .i64 x, .int .i64 y, .int .i64 k, .int .i64 at_]) (h1 : Fits kd) (h2 : Fits ox) (h3 : Fits oy) (h4 : Fits ok) (hoa : Hid (oa = if inB kd 4 7 = true then at_ else 0)) :
    Calls Tryd.prog 82 #[.pointer (some ⟨bb, 0, none⟩), .int .i64 kd, .int .i64 ox, .int .i64 oy, .int .i64 ok] w fun e w' => ∃ (A : Option Addr) (c : Nat) (L' : List IrOp) (m : Nat), e = .returned (.int .i64 (m : Int)) ∧ m = L.length ∧ L' = L ++ [⟨kd, ox, oy, ok, oa⟩] ∧ Gro 76 lo w' (.slice A L'.length c) L' ∧ Grew [bb] v (.slice A L'.length c) w w' ∧ Bk (.slice A L'.length c) w' bb [.int .i64 pc, .int .i64 ln, (.slice A L'.length c), .int .i64 fin, .int .i64 x, .int .i64 y, .int .i64 k, .int .i64 at_] := by
  obtain ⟨i0, hi, hz0, hz1, hz2⟩ := info_parts infIrOp
  have HI := hide hi
  have HZ0 := hide hz0
  have HZ1 := hide hz1
  have HZ2 := hide hz2
  clear hi hz0 hz1 hz2
  obtain ⟨A0, c0, rfl, hlc, hcm⟩ := hG.form
  have hGlt := hG.lt
  have hbb := k_bld.lt
  go_enter Tryd.func82, Tryd.ntmps82
  go_upto_region 1 with fail
  have he0 : Ext w w := Ext.refl _
  have hs0 : w.heap.size ≤ w.heap.size := Nat.le_refl _
  have hK : Grew [bb] (.slice A0 L.length c0) (.slice A0 L.length c0) w w := (Grew.refl _ _ _).ext he0
  replace hG := hG.ext he0
  replace k_bld := k_bld.ext he0
  clear hGlt
  unfold maxLen at hcm
  cases q0 : inB kd 4 7
  · 
    have ho9 : 0 = oa := by have h := hoa.out; rw [q0] at h; simpa using h.symm
    clear hoa
    subst ho9
    go_upto_region 2 with fail
    generalize ho : Obj.cells #[.int .i64 kd, .int .i64 ox, .int .i64 oy, .int .i64 ok, .int .i64 0] 76 = o
    have k_o := Bk.new hG ho
    replace hK := hK.alloc o
    replace hG := hG.alloc o
    replace k_bld := k_bld.alloc o
    have hs1 : w.heap.size + 1 ≤ (w.alloc o).heap.size := by simp
    generalize w.alloc o = w1 at *
    clear ho
    have yo := k_o.lt
    have xo0 := k_o.bx 0 _ rfl
    have xo1 := k_o.bx 1 _ rfl
    have xo2 := k_o.bx 2 _ rfl
    have xo3 := k_o.bx 3 _ rfl
    have xo4 := k_o.bx 4 _ rfl
    have fo := k_o.fz
    go_wp2_with fail
    refine (event_any kd ox oy ok 0 _).mono ?_
    rintro e w2 ⟨rfl, hy⟩
    rw [q0]
    have hs2 := hy.size
    replace hK := hK.ext hy
    replace hG := hG.ext hy
    clear xo0 xo1 xo2 xo3 xo4 yo
    clear fo
    replace k_bld := k_bld.ext hy
    replace k_o := k_o.ext hy
    clear hy
    have hok9 : IrOp.Ok ⟨kd, ox, oy, ok, 0⟩ := ⟨h1, h2, h3, h4, (show Fits 0 by unfold Fits; omega)⟩
    have hGq := hG.lt
    obtain ⟨wa, Fs, xs, h00, hA⟩ := hG
    have hAf := hA.flat
    have yo := k_o.lt
    have xo0 := k_o.bx 0 _ rfl
    have xo1 := k_o.bx 1 _ rfl
    have xo2 := k_o.bx 2 _ rfl
    have xo3 := k_o.bx 3 _ rfl
    have xo4 := k_o.bx 4 _ rfl
    have fo := k_o.fz
    have ybld := k_bld.lt
    have xbld0 := k_bld.bx 0 _ rfl
    have xbld1 := k_bld.bx 1 _ rfl
    have xbld2 := k_bld.bx 2 _ rfl
    have xbld3 := k_bld.bx 3 _ rfl
    have xbld4 := k_bld.bx 4 _ rfl
    have xbld5 := k_bld.bx 5 _ rfl
    have xbld6 := k_bld.bx 6 _ rfl
    have xbld7 := k_bld.bx 7 _ rfl
    have fbld := k_bld.fz
    go_upto_region 4 with fail
    have hSo : ∀ w', Turn (Value.ownBlock (.slice A0 L.length c0)).toList w2 w' → ∀ oo, w'.cell? ⟨w.heap.size, oo, none⟩ = w2.cell? ⟨w.heap.size, oo, none⟩ := fun w' hx => k_o.cell hx rfl
    have hSbld : ∀ w', Turn (Value.ownBlock (.slice A0 L.length c0)).toList w2 w' → ∀ oo, w'.cell? ⟨bb, oo, none⟩ = w2.cell? ⟨bb, oo, none⟩ := fun w' hx => k_bld.cell hx rfl
    refine wp_region_plan (fun w' => Turn (Value.ownBlock (.slice A0 L.length c0)).toList w2 w') 9 (.float 0 (.float 1 (.float 2 (.float 3 (.float 4 (.float 5 (.float 6 (.chain 7 (.chain 8 (.tail 9)))))))))) (by kernel_rfl) (by kernel_rfl) (Turn.of_ext (Ext.refl _).drew _) ?_
    iterate 7 ((refine Plan.float_step (v := ?_) rfl (by rfl) (fun _ _ _ h => h) (fun w' hSw => ?_) ?_; rotate_left; · (go_simp; try with_reducible rfl)); (try simp only [Act.put, List.setIfInBounds_toArray, List.set_cons_zero, List.set_cons_succ]))
    refine Plan.chain_step rfl (fun K hK8 => ?_)
    go_simp
    refine hK8.out _ _ (Turn.of_ext Ext.auto _) ?_
    clear hK8
    (try simp only [Act.put, List.setIfInBounds_toArray, List.set_cons_zero, List.set_cons_succ])
    refine Plan.chain_step rfl (fun K hK8 => ?_)
    (try rw [drew_alloc])
    refine wp_append_push2 (α := IrOp) (w0 := wa) (wr := w2) _ _ 32 rfl i0 _ 40 Tryd.underlying32 HI.out HZ0.out HZ1.out HZ2.out rfl (by decide) hA.app rfl (⟨kd, ox, oy, ok, 0⟩) #[.int .i64 kd, .int .i64 ox, .int .i64 oy, .int .i64 ok, .int .i64 0] 76 [] _ rfl Ext.auto ⟨rfl, hok9, rfl⟩ (Fr.nil _ _) (by repeat (first | (exact fun _ h => absurd h (List.not_mem_nil)) | (refine List.forall_mem_cons.2 ⟨rfl, ?_⟩))) (by unfold maxLen; omega) (by omega) ?_
    intro v' w9 xs' hA9 hg9 hb9
    have hG9 := Gro.pushG h00 (fun q hq => (hGq q hq).1) (by simp; omega) hAf hA9 hb9
    have hy9 := Grew.of_grown (w := w2) (w' := (w2.drew.alloc (.cells #[.int .i64 kd, .int .i64 ox, .int .i64 oy, .int .i64 ok, .int .i64 0] 76))) Ext.auto hg9 rfl hb9 []
    clear hA9 hg9 hb9
    obtain ⟨L1, hL1⟩ : ∃ L1, L1 = L ++ [(⟨kd, ox, oy, ok, 0⟩ : IrOp)] := ⟨_, rfl⟩
    rw [← hL1] at hG9
    have HN1 := hide (show L1.length = L.length + 1 by rw [hL1]; simp)
    have HL1 := hide hL1
    clear hL1
    obtain ⟨A9, c9, rfl, -, -⟩ := hG9.form
    have hs9 := hy9.size
    refine hK8.out _ _ (by simpa using hy9.turn) ?_
    clear hK8
    (try simp only [Act.put, List.setIfInBounds_toArray, List.set_cons_zero, List.set_cons_succ])
    refine Plan.tail_step ?_
    simp only [List.drop_succ_cons, List.drop_zero]
    clear hSo hSbld
    clear xo0 xo1 xo2 xo3 xo4 yo
    clear fo
    clear xbld0 xbld1 xbld2 xbld3 xbld4 xbld5 xbld6 xbld7 ybld
    clear fbld
    replace hK := hK.trans hy9
    replace k_bld := k_bld.grew hy9
    have hG := hG9
    clear hy9 k_o hG9
    have ybld := k_bld.lt
    have xbld0 := k_bld.bx 0 _ rfl
    have xbld1 := k_bld.bx 1 _ rfl
    have xbld2 := k_bld.bx 2 _ rfl
    have xbld3 := k_bld.bx 3 _ rfl
    have xbld4 := k_bld.bx 4 _ rfl
    have xbld5 := k_bld.bx 5 _ rfl
    have xbld6 := k_bld.bx 6 _ rfl
    have xbld7 := k_bld.bx 7 _ rfl
    have fbld := k_bld.fz
    go_upto_region 5 with fail
    clear xbld0 xbld1 xbld2 xbld3 xbld4 xbld5 xbld6 xbld7 ybld
    clear fbld
    have k_b2 : Bk _ (w9.setCell ⟨bb, 2, none⟩ (.slice A9 L1.length c9)) _ [.int .i64 pc, .int .i64 ln, (.slice A9 L1.length c9), .int .i64 fin, .int .i64 x, .int .i64 y, .int .i64 k, .int .i64 at_] := k_bld.put (j := 2) (by simp) (.slice A9 L1.length c9)
    replace hK := hK.set (p := ⟨bb, 2, none⟩) (.inr (by simp)) (.slice A9 L1.length c9)
    replace hG := hG.set (p := ⟨bb, 2, none⟩) k_bld.ne (.slice A9 L1.length c9)
    clear k_bld
    generalize (w9.setCell ⟨bb, 2, none⟩ (.slice A9 L1.length c9)) = w8 at *
    have k_bld := k_b2
    clear k_b2
    have z1 : IntKind.i64.wrap ((L1.length : Int) - 1) = (L.length : Int) := by (have hn1 := HN1.out); rw [hn1, IntKind.wrap_i64] <;> omega
    have ybld := k_bld.lt
    have xbld0 := k_bld.bx 0 _ rfl
    have xbld1 := k_bld.bx 1 _ rfl
    have xbld2 := k_bld.bx 2 _ rfl
    have xbld3 := k_bld.bx 3 _ rfl
    have xbld4 := k_bld.bx 4 _ rfl
    have xbld5 := k_bld.bx 5 _ rfl
    have xbld6 := k_bld.bx 6 _ rfl
    have xbld7 := k_bld.bx 7 _ rfl
    have fbld := k_bld.fz
    go_wp2
    go_ret
    exact ⟨A9, c9, L1, L.length, rfl, rfl, HL1.out, hG, hK, k_bld⟩
  · 
    have ho9 : at_ = oa := by have h := hoa.out; rw [q0] at h; simpa using h.symm
    clear hoa
    subst ho9
    go_upto_region 2 with fail
    generalize ho : Obj.cells #[.int .i64 kd, .int .i64 ox, .int .i64 oy, .int .i64 ok, .int .i64 0] 76 = o
    have k_o := Bk.new hG ho
    replace hK := hK.alloc o
    replace hG := hG.alloc o
    replace k_bld := k_bld.alloc o
    have hs1 : w.heap.size + 1 ≤ (w.alloc o).heap.size := by simp
    generalize w.alloc o = w1 at *
    clear ho
    have yo := k_o.lt
    have xo0 := k_o.bx 0 _ rfl
    have xo1 := k_o.bx 1 _ rfl
    have xo2 := k_o.bx 2 _ rfl
    have xo3 := k_o.bx 3 _ rfl
    have xo4 := k_o.bx 4 _ rfl
    have fo := k_o.fz
    go_wp2_with fail
    refine (event_any kd ox oy ok 0 _).mono ?_
    rintro e w2 ⟨rfl, hy⟩
    rw [q0]
    have hs2 := hy.size
    replace hK := hK.ext hy
    replace hG := hG.ext hy
    clear xo0 xo1 xo2 xo3 xo4 yo
    clear fo
    replace k_bld := k_bld.ext hy
    replace k_o := k_o.ext hy
    clear hy
    have yo := k_o.lt
    have xo0 := k_o.bx 0 _ rfl
    have xo1 := k_o.bx 1 _ rfl
    have xo2 := k_o.bx 2 _ rfl
    have xo3 := k_o.bx 3 _ rfl
    have xo4 := k_o.bx 4 _ rfl
    have fo := k_o.fz
    have ybld := k_bld.lt
    have xbld0 := k_bld.bx 0 _ rfl
    have xbld1 := k_bld.bx 1 _ rfl
    have xbld2 := k_bld.bx 2 _ rfl
    have xbld3 := k_bld.bx 3 _ rfl
    have xbld4 := k_bld.bx 4 _ rfl
    have xbld5 := k_bld.bx 5 _ rfl
    have xbld6 := k_bld.bx 6 _ rfl
    have xbld7 := k_bld.bx 7 _ rfl
    have fbld := k_bld.fz
    go_upto_region 4 with fail
    clear xo0 xo1 xo2 xo3 xo4 yo
    clear fo
    clear xbld0 xbld1 xbld2 xbld3 xbld4 xbld5 xbld6 xbld7 ybld
    clear fbld
    have k_o2 : Bk _ (w2.setCell ⟨w.heap.size, 4, none⟩ (.int .i64 at_)) _ [.int .i64 kd, .int .i64 ox, .int .i64 oy, .int .i64 ok, .int .i64 at_] := k_o.put (j := 4) (by simp) (.int .i64 at_)
    replace hK := hK.set (p := ⟨w.heap.size, 4, none⟩) (.inl (by simp)) (.int .i64 at_)
    replace hG := hG.set (p := ⟨w.heap.size, 4, none⟩) k_o.ne (.int .i64 at_)
    replace k_bld := k_bld.set (p := ⟨w.heap.size, 4, none⟩) (by simp; omega) (.int .i64 at_)
    clear k_o
    have hs3 : w2.heap.size ≤ (w2.setCell ⟨w.heap.size, 4, none⟩ (.int .i64 at_)).heap.size := by simp
    generalize (w2.setCell ⟨w.heap.size, 4, none⟩ (.int .i64 at_)) = w3 at *
    have k_o := k_o2
    clear k_o2
    have hok9 : IrOp.Ok ⟨kd, ox, oy, ok, at_⟩ := ⟨h1, h2, h3, h4, (show Fits at_ by unfold Fits; omega)⟩
    have hGq := hG.lt
    obtain ⟨wa, Fs, xs, h00, hA⟩ := hG
    have hAf := hA.flat
    have yo := k_o.lt
    have xo0 := k_o.bx 0 _ rfl
    have xo1 := k_o.bx 1 _ rfl
    have xo2 := k_o.bx 2 _ rfl
    have xo3 := k_o.bx 3 _ rfl
    have xo4 := k_o.bx 4 _ rfl
    have fo := k_o.fz
    have ybld := k_bld.lt
    have xbld0 := k_bld.bx 0 _ rfl
    have xbld1 := k_bld.bx 1 _ rfl
    have xbld2 := k_bld.bx 2 _ rfl
    have xbld3 := k_bld.bx 3 _ rfl
    have xbld4 := k_bld.bx 4 _ rfl
    have xbld5 := k_bld.bx 5 _ rfl
    have xbld6 := k_bld.bx 6 _ rfl
    have xbld7 := k_bld.bx 7 _ rfl
    have fbld := k_bld.fz
    go_upto_region 4 with fail
    have hSo : ∀ w', Turn (Value.ownBlock (.slice A0 L.length c0)).toList w3 w' → ∀ oo, w'.cell? ⟨w.heap.size, oo, none⟩ = w3.cell? ⟨w.heap.size, oo, none⟩ := fun w' hx => k_o.cell hx rfl
    have hSbld : ∀ w', Turn (Value.ownBlock (.slice A0 L.length c0)).toList w3 w' → ∀ oo, w'.cell? ⟨bb, oo, none⟩ = w3.cell? ⟨bb, oo, none⟩ := fun w' hx => k_bld.cell hx rfl
    refine wp_region_plan (fun w' => Turn (Value.ownBlock (.slice A0 L.length c0)).toList w3 w') 9 (.float 0 (.float 1 (.float 2 (.float 3 (.float 4 (.float 5 (.float 6 (.chain 7 (.chain 8 (.tail 9)))))))))) (by kernel_rfl) (by kernel_rfl) (Turn.of_ext (Ext.refl _).drew _) ?_
    iterate 7 ((refine Plan.float_step (v := ?_) rfl (by rfl) (fun _ _ _ h => h) (fun w' hSw => ?_) ?_; rotate_left; · (go_simp; try with_reducible rfl)); (try simp only [Act.put, List.setIfInBounds_toArray, List.set_cons_zero, List.set_cons_succ]))
    refine Plan.chain_step rfl (fun K hK8 => ?_)
    go_simp
    refine hK8.out _ _ (Turn.of_ext Ext.auto _) ?_
    clear hK8
    (try simp only [Act.put, List.setIfInBounds_toArray, List.set_cons_zero, List.set_cons_succ])
    refine Plan.chain_step rfl (fun K hK8 => ?_)
    (try rw [drew_alloc])
    refine wp_append_push2 (α := IrOp) (w0 := wa) (wr := w3) _ _ 32 rfl i0 _ 40 Tryd.underlying32 HI.out HZ0.out HZ1.out HZ2.out rfl (by decide) hA.app rfl (⟨kd, ox, oy, ok, at_⟩) #[.int .i64 kd, .int .i64 ox, .int .i64 oy, .int .i64 ok, .int .i64 at_] 76 [] _ rfl Ext.auto ⟨rfl, hok9, rfl⟩ (Fr.nil _ _) (by repeat (first | (exact fun _ h => absurd h (List.not_mem_nil)) | (refine List.forall_mem_cons.2 ⟨rfl, ?_⟩))) (by unfold maxLen; omega) (by omega) ?_
    intro v' w9 xs' hA9 hg9 hb9
    have hG9 := Gro.pushG h00 (fun q hq => (hGq q hq).1) (by simp; omega) hAf hA9 hb9
    have hy9 := Grew.of_grown (w := w3) (w' := (w3.drew.alloc (.cells #[.int .i64 kd, .int .i64 ox, .int .i64 oy, .int .i64 ok, .int .i64 at_] 76))) Ext.auto hg9 rfl hb9 []
    clear hA9 hg9 hb9
    obtain ⟨L1, hL1⟩ : ∃ L1, L1 = L ++ [(⟨kd, ox, oy, ok, at_⟩ : IrOp)] := ⟨_, rfl⟩
    rw [← hL1] at hG9
    have HN1 := hide (show L1.length = L.length + 1 by rw [hL1]; simp)
    have HL1 := hide hL1
    clear hL1
    obtain ⟨A9, c9, rfl, -, -⟩ := hG9.form
    have hs9 := hy9.size
    refine hK8.out _ _ (by simpa using hy9.turn) ?_
    clear hK8
    (try simp only [Act.put, List.setIfInBounds_toArray, List.set_cons_zero, List.set_cons_succ])
    refine Plan.tail_step ?_
    simp only [List.drop_succ_cons, List.drop_zero]
    clear hSo hSbld
    clear xo0 xo1 xo2 xo3 xo4 yo
    clear fo
    clear xbld0 xbld1 xbld2 xbld3 xbld4 xbld5 xbld6 xbld7 ybld
    clear fbld
    replace hK := hK.trans hy9
    replace k_bld := k_bld.grew hy9
    have hG := hG9
    clear hy9 k_o hG9
    have ybld := k_bld.lt
    have xbld0 := k_bld.bx 0 _ rfl
    have xbld1 := k_bld.bx 1 _ rfl
    have xbld2 := k_bld.bx 2 _ rfl
    have xbld3 := k_bld.bx 3 _ rfl
    have xbld4 := k_bld.bx 4 _ rfl
    have xbld5 := k_bld.bx 5 _ rfl
    have xbld6 := k_bld.bx 6 _ rfl
    have xbld7 := k_bld.bx 7 _ rfl
    have fbld := k_bld.fz
    go_upto_region 5 with fail
    clear xbld0 xbld1 xbld2 xbld3 xbld4 xbld5 xbld6 xbld7 ybld
    clear fbld
    have k_b2 : Bk _ (w9.setCell ⟨bb, 2, none⟩ (.slice A9 L1.length c9)) _ [.int .i64 pc, .int .i64 ln, (.slice A9 L1.length c9), .int .i64 fin, .int .i64 x, .int .i64 y, .int .i64 k, .int .i64 at_] := k_bld.put (j := 2) (by simp) (.slice A9 L1.length c9)
    replace hK := hK.set (p := ⟨bb, 2, none⟩) (.inr (by simp)) (.slice A9 L1.length c9)
    replace hG := hG.set (p := ⟨bb, 2, none⟩) k_bld.ne (.slice A9 L1.length c9)
    clear k_bld
    generalize (w9.setCell ⟨bb, 2, none⟩ (.slice A9 L1.length c9)) = w8 at *
    have k_bld := k_b2
    clear k_b2
    have z1 : IntKind.i64.wrap ((L1.length : Int) - 1) = (L.length : Int) := by (have hn1 := HN1.out); rw [hn1, IntKind.wrap_i64] <;> omega
    have ybld := k_bld.lt
    have xbld0 := k_bld.bx 0 _ rfl
    have xbld1 := k_bld.bx 1 _ rfl
    have xbld2 := k_bld.bx 2 _ rfl
    have xbld3 := k_bld.bx 3 _ rfl
    have xbld4 := k_bld.bx 4 _ rfl
    have xbld5 := k_bld.bx 5 _ rfl
    have xbld6 := k_bld.bx 6 _ rfl
    have xbld7 := k_bld.bx 7 _ rfl
    have fbld := k_bld.fz
    go_wp2
    go_ret
    exact ⟨A9, c9, L1, L.length, rfl, rfl, HL1.out, hG, hK, k_bld⟩

set_option maxHeartbeats 16000000 in
theorem bGet_any (pc ln fin x y k at_ : Int) (L : List IrOp) (lo bb : Nat) (v : Value) (r : Int) (w : World) (hG : Gro 76 lo w v L) (hlen : L.length ≤ 1000) (hlo : lo ≤ w.heap.size) (hat : 0 ≤ at_ ∧ at_ ≤ 1000) (k_bld : Bk v w bb [.int .i64 pc, .int .i64 ln, v, .int .i64 fin, .int .i64 x, .int .i64 y, .int .i64 k, .int .i64 at_]) (h1 : Fits r) :
    Calls Tryd.prog 84 #[.pointer (some ⟨bb, 0, none⟩), .int .i64 r] w fun e w' => ∃ (A : Option Addr) (c : Nat) (L' : List IrOp) (m : Nat), e = .returned (.int .i64 (m : Int)) ∧ m = L.length ∧ L' = L ++ [⟨2, 0, 0, r, 0⟩] ∧ Gro 76 lo w' (.slice A L'.length c) L' ∧ Grew [bb] v (.slice A L'.length c) w w' ∧ Bk (.slice A L'.length c) w' bb [.int .i64 pc, .int .i64 ln, (.slice A L'.length c), .int .i64 fin, .int .i64 x, .int .i64 y, .int .i64 k, .int .i64 at_] := by
  obtain ⟨A0, c0, rfl, hlc, hcm⟩ := hG.form
  have hGlt := hG.lt
  have hbb := k_bld.lt
  go_enter Tryd.func84, Tryd.ntmps84
  go_upto_region 1 with fail
  have he0 : Ext w w := Ext.refl _
  have hs0 : w.heap.size ≤ w.heap.size := Nat.le_refl _
  have hK : Grew [bb] (.slice A0 L.length c0) (.slice A0 L.length c0) w w := (Grew.refl _ _ _).ext he0
  replace hG := hG.ext he0
  replace k_bld := k_bld.ext he0
  clear hGlt
  unfold Fits at h1
  go_wp2_with fail
  refine (bOp_any pc ln fin x y k at_ L lo bb _ 2 0 0 r 0 _ hG (by omega) (by omega) hat k_bld (by unfold Fits; omega) (by unfold Fits; omega) (by unfold Fits; omega) (by unfold Fits; omega) (hide (by simp [inB]))).mono ?_
  rintro e w1 ⟨A1, c1, L1, m1, rfl, hm1, hL1, hG9, hy, kb9⟩
  have HM1 := hide hm1
  have bm1 : m1 ≤ L.length + 1 := by omega
  clear hm1
  have HL1 := hide hL1
  have bl1 : L1.length ≤ L.length + 1 := by rw [hL1]; simp
  clear hL1
  have hs1 := hy.size
  replace hK := hK.trans hy
  replace hG := hG9
  replace k_bld := kb9
  clear hy
  go_wp2
  go_ret
  exact ⟨_, _, L1, m1, rfl, HM1.out, by rw [HL1.out], hG, hK, k_bld⟩

set_option maxHeartbeats 16000000 in
theorem bPut_any (pc ln fin x y k at_ : Int) (L : List IrOp) (lo bb : Nat) (v : Value) (r : Int) (w : World) (hG : Gro 76 lo w v L) (hlen : L.length ≤ 1000) (hlo : lo ≤ w.heap.size) (hat : 0 ≤ at_ ∧ at_ ≤ 1000) (k_bld : Bk v w bb [.int .i64 pc, .int .i64 ln, v, .int .i64 fin, .int .i64 x, .int .i64 y, .int .i64 k, .int .i64 at_]) (h1 : Fits r) :
    Calls Tryd.prog 83 #[.pointer (some ⟨bb, 0, none⟩), .int .i64 r] w fun e w' => ∃ (A : Option Addr) (c : Nat) (L' : List IrOp) (m : Nat), e = .returned (.int .i64 (m : Int)) ∧ m = L.length ∧ L' = L ++ [⟨1, 0, 0, r, 0⟩] ∧ Gro 76 lo w' (.slice A L'.length c) L' ∧ Grew [bb] v (.slice A L'.length c) w w' ∧ Bk (.slice A L'.length c) w' bb [.int .i64 pc, .int .i64 ln, (.slice A L'.length c), .int .i64 fin, .int .i64 x, .int .i64 y, .int .i64 k, .int .i64 at_] := by
  obtain ⟨A0, c0, rfl, hlc, hcm⟩ := hG.form
  have hGlt := hG.lt
  have hbb := k_bld.lt
  go_enter Tryd.func83, Tryd.ntmps83
  go_upto_region 1 with fail
  have he0 : Ext w w := Ext.refl _
  have hs0 : w.heap.size ≤ w.heap.size := Nat.le_refl _
  have hK : Grew [bb] (.slice A0 L.length c0) (.slice A0 L.length c0) w w := (Grew.refl _ _ _).ext he0
  replace hG := hG.ext he0
  replace k_bld := k_bld.ext he0
  clear hGlt
  unfold Fits at h1
  go_wp2_with fail
  refine (bOp_any pc ln fin x y k at_ L lo bb _ 1 0 0 r 0 _ hG (by omega) (by omega) hat k_bld (by unfold Fits; omega) (by unfold Fits; omega) (by unfold Fits; omega) (by unfold Fits; omega) (hide (by simp [inB]))).mono ?_
  rintro e w1 ⟨A1, c1, L1, m1, rfl, hm1, hL1, hG9, hy, kb9⟩
  have HM1 := hide hm1
  have bm1 : m1 ≤ L.length + 1 := by omega
  clear hm1
  have HL1 := hide hL1
  have bl1 : L1.length ≤ L.length + 1 := by rw [hL1]; simp
  clear hL1
  have hs1 := hy.size
  replace hK := hK.trans hy
  replace hG := hG9
  replace k_bld := kb9
  clear hy
  go_wp2
  go_ret
  exact ⟨_, _, L1, m1, rfl, HM1.out, by rw [HL1.out], hG, hK, k_bld⟩

set_option maxHeartbeats 16000000 in
theorem bDo_any (pc ln fin x y k at_ : Int) (L : List IrOp) (lo bb : Nat) (v : Value) (op xx yy : Int) (w : World) (hG : Gro 76 lo w v L) (hlen : L.length ≤ 1000) (hlo : lo ≤ w.heap.size) (hat : 0 ≤ at_ ∧ at_ ≤ 1000) (k_bld : Bk v w bb [.int .i64 pc, .int .i64 ln, v, .int .i64 fin, .int .i64 x, .int .i64 y, .int .i64 k, .int .i64 at_]) (h1 : Fits op) (h2 : Fits xx) (h3 : Fits yy) :
    Calls Tryd.prog 85 #[.pointer (some ⟨bb, 0, none⟩), .int .i64 op, .int .i64 xx, .int .i64 yy] w fun e w' => ∃ (A : Option Addr) (c : Nat) (L' : List IrOp) (m : Nat), e = .returned (.int .i64 (m : Int)) ∧ m = L.length ∧ L' = L ++ [⟨3, xx, yy, op, 0⟩] ∧ Gro 76 lo w' (.slice A L'.length c) L' ∧ Grew [bb] v (.slice A L'.length c) w w' ∧ Bk (.slice A L'.length c) w' bb [.int .i64 pc, .int .i64 ln, (.slice A L'.length c), .int .i64 fin, .int .i64 x, .int .i64 y, .int .i64 k, .int .i64 at_] := by
  obtain ⟨A0, c0, rfl, hlc, hcm⟩ := hG.form
  have hGlt := hG.lt
  have hbb := k_bld.lt
  go_enter Tryd.func85, Tryd.ntmps85
  go_upto_region 1 with fail
  have he0 : Ext w w := Ext.refl _
  have hs0 : w.heap.size ≤ w.heap.size := Nat.le_refl _
  have hK : Grew [bb] (.slice A0 L.length c0) (.slice A0 L.length c0) w w := (Grew.refl _ _ _).ext he0
  replace hG := hG.ext he0
  replace k_bld := k_bld.ext he0
  clear hGlt
  unfold Fits at h1 h2 h3
  go_wp2_with fail
  refine (bOp_any pc ln fin x y k at_ L lo bb _ 3 xx yy op 0 _ hG (by omega) (by omega) hat k_bld (by unfold Fits; omega) (by unfold Fits; omega) (by unfold Fits; omega) (by unfold Fits; omega) (hide (by simp [inB]))).mono ?_
  rintro e w1 ⟨A1, c1, L1, m1, rfl, hm1, hL1, hG9, hy, kb9⟩
  have HM1 := hide hm1
  have bm1 : m1 ≤ L.length + 1 := by omega
  clear hm1
  have HL1 := hide hL1
  have bl1 : L1.length ≤ L.length + 1 := by rw [hL1]; simp
  clear hL1
  have hs1 := hy.size
  replace hK := hK.trans hy
  replace hG := hG9
  replace k_bld := kb9
  clear hy
  go_wp2
  go_ret
  exact ⟨_, _, L1, m1, rfl, HM1.out, by rw [HL1.out], hG, hK, k_bld⟩

set_option maxHeartbeats 16000000 in
theorem bSet_any (pc ln fin x y k at_ : Int) (L : List IrOp) (lo bb : Nat) (v : Value) (xx d op a kk : Int) (tb ib : Nat) (w : World) (hG : Gro 76 lo w v L) (hlen : L.length ≤ 1000) (hlo : lo ≤ w.heap.size) (hat : 0 ≤ at_ ∧ at_ ≤ 1000) (k_bld : Bk v w bb [.int .i64 pc, .int .i64 ln, v, .int .i64 fin, .int .i64 x, .int .i64 y, .int .i64 k, .int .i64 at_]) (k_pt : Bk v w tb [.pointer (some ⟨bb, 0, none⟩)]) (k_i : Bk v w ib [.int .i64 op, .int .i64 d, .int .i64 a, .int .i64 kk]) (h1 : Fits xx) (h2 : Fits d) :
    Calls Tryd.prog 81 #[.int .i64 xx, .pointer (some ⟨tb, 0, none⟩), .pointer (some ⟨ib, 0, none⟩)] w fun e w' => ∃ (A : Option Addr) (c : Nat) (L' : List IrOp), e = .returned (.tuple #[]) ∧ L' = L ++ [⟨8, xx, 0, d, 0⟩] ∧ Gro 76 lo w' (.slice A L'.length c) L' ∧ Grew [bb] v (.slice A L'.length c) w w' ∧ Bk (.slice A L'.length c) w' bb [.int .i64 pc, .int .i64 ln, (.slice A L'.length c), .int .i64 fin, .int .i64 x, .int .i64 y, .int .i64 k, .int .i64 at_] := by
  obtain ⟨A0, c0, rfl, hlc, hcm⟩ := hG.form
  unfold Fits at h1 h2
  go_enter Tryd.func81, Tryd.ntmps81
  have ypt := k_pt.lt
  have xpt0 := k_pt.bx 0 _ rfl
  have fpt := k_pt.fz
  have yi := k_i.lt
  have xi0 := k_i.bx 0 _ rfl
  have xi1 := k_i.bx 1 _ rfl
  have xi2 := k_i.bx 2 _ rfl
  have xi3 := k_i.bx 3 _ rfl
  have fi := k_i.fz
  go_wp2_with fail
  refine (bOp_any pc ln fin x y k at_ L lo bb _ 8 xx 0 d 0 _ hG (by omega) (by omega) hat k_bld (by unfold Fits; omega) (by unfold Fits; omega) (by unfold Fits; omega) (by unfold Fits; omega) (hide (by simp [inB]))).mono ?_
  rintro e w1 ⟨A1, c1, L1, m1, rfl, hm, hL, hG9, hy, kb9⟩
  go_wp2
  (try simp only [Exit.inBlock, Exit.then])
  refine bodyPost_end (results_none rfl _ _ _) rfl ?_
  exact ⟨A1, c1, L1, rfl, by rw [hL], hG9, hy, kb9⟩

end Go.Proofs.YtokibcicoomceaaDoor
