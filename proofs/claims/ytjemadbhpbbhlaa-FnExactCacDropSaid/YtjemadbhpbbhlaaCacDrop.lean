/-
  What is kept whose words are still there: the program and the reference.
-/
import Derived.Test.YtjemadbhpbbhlaaCacDropP
import Derived.Test.YtjemadbhpbbhlaaIrOkI
import Derived.Deep.DeepCutAuto
namespace Go.Proofs.Ytjemadbhpbbhlaa
open Go.RowKit

set_option linter.unusedVariables false
set_option linter.unusedSimpArgs false
set_option maxRecDepth 100000

set_option maxHeartbeats 8000000 in
theorem current_any (o : CacEntry) (m : List Int) (vo1 vo2 vm : Value) (w : World) (ho1 : Sl w (Old w) vo1 o.words) (ho2 : Sl w (Old w) vo2 o.block.ops) (hm : Sl w (Old w) vm m) (hko : o.Ok) :
    Calls Try.prog 117 #[.agg #[vo1, .int .i64 o.block.pc, .int .i64 o.block.len, vo2, .int .i64 o.block.fin, .int .i64 o.block.x, .int .i64 o.block.y, .int .i64 o.block.k], vm] w fun e w' => e = .returned (.bool (curB m o)) ∧ Ext w w' := by
  obtain ⟨Ao1, co1, rfl, hlo1, hmo1⟩ := ho1.form
  obtain ⟨Ao2, co2, rfl, hlo2, hmo2⟩ := ho2.form
  obtain ⟨Am, cm, rfl, hlm, hmm⟩ := hm.form
  unfold maxLen at hmm hmo1
  go_enter Try.func117, Try.ntmps117
  go_upto_region 1 with fail
  have he0 : Ext w (w.alloc (Obj.cells #[(.slice Ao1 o.words.length co1), .int .i64 o.block.pc, .int .i64 o.block.len, (.slice Ao2 o.block.ops.length co2), .int .i64 o.block.fin, .int .i64 o.block.x, .int .i64 o.block.y, .int .i64 o.block.k] 72)) := (Ext.auto)
  have hs0 : w.heap.size + 1 ≤ ((w.alloc (Obj.cells #[(.slice Ao1 o.words.length co1), .int .i64 o.block.pc, .int .i64 o.block.len, (.slice Ao2 o.block.ops.length co2), .int .i64 o.block.fin, .int .i64 o.block.x, .int .i64 o.block.y, .int .i64 o.block.k] 72))).heap.size := by simp
  have hq0 := hide (show ((w.alloc (Obj.cells #[(.slice Ao1 o.words.length co1), .int .i64 o.block.pc, .int .i64 o.block.len, (.slice Ao2 o.block.ops.length co2), .int .i64 o.block.fin, .int .i64 o.block.x, .int .i64 o.block.y, .int .i64 o.block.k] 72))).heap.size = w.heap.size + 1 by simp)
  have hBo_0 : Bx (w.alloc (Obj.cells #[(.slice Ao1 o.words.length co1), .int .i64 o.block.pc, .int .i64 o.block.len, (.slice Ao2 o.block.ops.length co2), .int .i64 o.block.fin, .int .i64 o.block.x, .int .i64 o.block.y, .int .i64 o.block.k] 72)) (w.heap.size) [(.slice Ao1 o.words.length co1), .int .i64 o.block.pc, .int .i64 o.block.len, (.slice Ao2 o.block.ops.length co2), .int .i64 o.block.fin, .int .i64 o.block.x, .int .i64 o.block.y, .int .i64 o.block.k] := (by have := (Bx.new w #[(.slice Ao1 o.words.length co1), .int .i64 o.block.pc, .int .i64 o.block.len, (.slice Ao2 o.block.ops.length co2), .int .i64 o.block.fin, .int .i64 o.block.x, .int .i64 o.block.y, .int .i64 o.block.k] 72); simpa using this)
  have hFo_0 : ∀ oo, ((w.alloc (Obj.cells #[(.slice Ao1 o.words.length co1), .int .i64 o.block.pc, .int .i64 o.block.len, (.slice Ao2 o.block.ops.length co2), .int .i64 o.block.fin, .int .i64 o.block.x, .int .i64 o.block.y, .int .i64 o.block.k] 72))).frozen? ⟨w.heap.size, oo, none⟩ = false := fun oo => by simp
  generalize (w.alloc (Obj.cells #[(.slice Ao1 o.words.length co1), .int .i64 o.block.pc, .int .i64 o.block.len, (.slice Ao2 o.block.ops.length co2), .int .i64 o.block.fin, .int .i64 o.block.x, .int .i64 o.block.y, .int .i64 o.block.k] 72)) = w0 at *
  have yo : w.heap.size < w0.heap.size := by omega
  have xo0 := hBo_0 0 _ rfl
  have xo1 := hBo_0 1 _ rfl
  have xo2 := hBo_0 2 _ rfl
  have xo3 := hBo_0 3 _ rfl
  have xo4 := hBo_0 4 _ rfl
  have xo5 := hBo_0 5 _ rfl
  have xo6 := hBo_0 6 _ rfl
  have xo7 := hBo_0 7 _ rfl
  have hfp : -9223372036854775808 ≤ o.block.pc ∧ o.block.pc ≤ 9223372036854775807 := hko.1
  by_cases hw : o.words.length = 0
  · have hwn : o.words = [] := List.eq_nil_of_length_eq_zero hw
    have q0 : ((o.words.length : Int) == 0) = true := by simp [hwn]
    by_cases hp : 0 ≤ o.block.pc
    · have q1 : decide (0 ≤ o.block.pc) = true := by simp [hp]
      have HC := hide (show curB m o = true by unfold curB thereB; rw [hwn]; simp [hp])
      clear hw hwn hfp
      go_wp2
      go_ret
      exact ⟨by rw [HC.out]; rfl, Ext.hold he0⟩
    · have q1 : decide (0 ≤ o.block.pc) = false := by simp [hp]; try omega
      have HC := hide (show curB m o = false by unfold curB; simp [hp])
      clear hw hwn hfp
      go_wp2
      go_ret
      exact ⟨by rw [HC.out]; rfl, Ext.hold he0⟩
  have q0 : ((o.words.length : Int) == 0) = false := by simp; intro h; exact hw (by rw [h]; rfl)
  by_cases hp : 0 ≤ o.block.pc ∧ o.block.pc + o.words.length ≤ m.length
  · 
    obtain ⟨hp0, hp1⟩ := hp
    have hI : inB o.block.pc 0 ((m.length : Int) - (o.words.length : Int)) = true := by unfold inB; simp; omega
    obtain ⟨bm, offm, rfl, hbm, -, -⟩ := at_Int hm (i := 0) (by omega)
    have HSUB := hide (hm.sub o.block.pc.toNat o.words.length (by omega))
    have HC := hide (show curB m o = decide ((m.drop o.block.pc.toNat).take o.words.length = o.words) by unfold curB thereB; rw [decide_eq_true hp0, Bool.true_and, Bool.eq_iff_iff]; simp)
    have zw : IntKind.i64.wrap (o.block.pc + (o.words.length : Int)) = o.block.pc + (o.words.length : Int) := by rw [IntKind.wrap_i64]; omega
    have zx : IntKind.i64.wrap ((m.length : Int) - (o.words.length : Int)) = (m.length : Int) - (o.words.length : Int) := by rw [IntKind.wrap_i64]; omega
    have y0 : o.block.pc ≤ o.block.pc + (o.words.length : Int) := by omega
    have y1 : o.block.pc + (o.words.length : Int) ≤ (cm : Int) := by omega
    have y2 : 0 ≤ o.block.pc + (o.words.length : Int) := by omega
    have y3 : (o.block.pc + (o.words.length : Int)).toNat - o.block.pc.toNat = o.words.length := by omega
    have y4 : o.block.pc ≤ (cm : Int) := by omega
    have y5 : o.block.pc.toNat < cm := by omega
    have y6 : ¬ cm = o.block.pc.toNat := by omega
    have hbm1 : bm < w.heap.size := hbm
    clear hw hbm hfp
    go_upto_region 4 with fail
    have hS : ∀ w', Ext w0 w' → ∀ bb oo, bb < w0.heap.size → w'.cell? ⟨bb, oo, none⟩ = w0.cell? ⟨bb, oo, none⟩ := fun w' hx bb oo hb => hx.cell hb
    refine wp_region_plan (fun w' => Ext w0 w') 19 (.float 0 (.float 1 (.float 2 (.float 3 (.float 4 (.float 5 (.float 6 (.chain 7 (.float 8 (.float 9 (.float 10 (.float 11 (.float 12 (.float 13 (.float 14 (.float 15 (.float 16 (.float 17 (.float 18 (.tail 19)))))))))))))))))))) (by kernel_rfl) (by kernel_rfl) (Ext.refl _).drew ?_
    iterate 7 ((refine Plan.float_step (v := ?_) rfl (by rfl) (fun _ _ _ h => h) (fun w' hSw => ?_) ?_; rotate_left; · (go_simp; try with_reducible rfl)); (try simp only [Act.put, List.setIfInBounds_toArray, List.set_cons_zero, List.set_cons_succ]))
    refine Plan.chain_step rfl (fun K hK => ?_)
    go_simp
    refine (in_any _ _ _ _).mono ?_
    rintro e w' ⟨rfl, rfl⟩
    refine hK.out _ _ Ext.auto ?_
    clear hK
    (try simp only [Act.put, List.setIfInBounds_toArray, List.set_cons_zero, List.set_cons_succ])
    (refine Plan.float_step (v := ?_) rfl (by rfl) (fun _ _ _ h => h) (fun w' hSw => ?_) ?_; rotate_left; · (go_simp; try with_reducible rfl)); (try simp only [Act.put, List.setIfInBounds_toArray, List.set_cons_zero, List.set_cons_succ])
    iterate 10 ((first | (refine Plan.float_step (v := ?_) rfl (by rfl) (fun _ _ _ h => h) (fun w' hSw => ?_) ?_; rotate_left; · (go_simp; try with_reducible rfl)) | (refine planNo rfl (by rfl) (fun _ _ _ h => h) ?_)); (try simp only [Act.put, List.setIfInBounds_toArray, List.set_cons_zero, List.set_cons_succ]))
    refine Plan.tail_step ?_
    simp only [List.drop_succ_cons, List.drop_zero]
    clear hS
    go_wp2_with fail
    refine (equalInts_any ((m.drop o.block.pc.toNat).take o.words.length) o.words _ _ _ (by have := HSUB.out.ext (he0.trans Ext.auto); rw [show o.block.pc.toNat * Rep.sz Int = o.block.pc.toNat from Nat.mul_one _] at this; exact this) (ho1.ext (he0.trans Ext.auto))).mono ?_
    rintro e w2 ⟨rfl, hy⟩
    go_wp2
    go_ret
    exact ⟨by rw [HC.out]; rfl, (Ext.hold he0).trans hy⟩
  · 
    have hI : inB o.block.pc 0 ((m.length : Int) - (o.words.length : Int)) = false := by unfold inB; simp; omega
    have zx : IntKind.i64.wrap ((m.length : Int) - (o.words.length : Int)) = (m.length : Int) - (o.words.length : Int) := by rw [IntKind.wrap_i64]; omega
    have HC := hide (show curB m o = false by
      unfold curB thereB
      by_cases h0 : 0 ≤ o.block.pc
      · rw [decide_eq_true h0, Bool.true_and, beq_eq_false_iff_ne]
        intro e
        have := congrArg List.length e
        simp at this
        omega
      · simp [h0])
    clear hw hp hfp
    go_upto_region 4 with fail
    have hS : ∀ w', Ext w0 w' → ∀ bb oo, bb < w0.heap.size → w'.cell? ⟨bb, oo, none⟩ = w0.cell? ⟨bb, oo, none⟩ := fun w' hx bb oo hb => hx.cell hb
    refine wp_region_plan (fun w' => Ext w0 w') 19 (.float 0 (.float 1 (.float 2 (.float 3 (.float 4 (.float 5 (.float 6 (.chain 7 (.float 8 (.float 9 (.float 10 (.float 11 (.float 12 (.float 13 (.float 14 (.float 15 (.float 16 (.float 17 (.float 18 (.tail 19)))))))))))))))))))) (by kernel_rfl) (by kernel_rfl) (Ext.refl _).drew ?_
    iterate 7 ((refine Plan.float_step (v := ?_) rfl (by rfl) (fun _ _ _ h => h) (fun w' hSw => ?_) ?_; rotate_left; · (go_simp; try with_reducible rfl)); (try simp only [Act.put, List.setIfInBounds_toArray, List.set_cons_zero, List.set_cons_succ]))
    refine Plan.chain_step rfl (fun K hK => ?_)
    go_simp
    refine (in_any _ _ _ _).mono ?_
    rintro e w' ⟨rfl, rfl⟩
    refine hK.out _ _ Ext.auto ?_
    clear hK
    (try simp only [Act.put, List.setIfInBounds_toArray, List.set_cons_zero, List.set_cons_succ])
    (refine Plan.float_step (v := ?_) rfl (by rfl) (fun _ _ _ h => h) (fun w' hSw => ?_) ?_; rotate_left; · (go_simp; try with_reducible rfl)); (try simp only [Act.put, List.setIfInBounds_toArray, List.set_cons_zero, List.set_cons_succ])
    iterate 10 ((first | (refine Plan.float_step (v := ?_) rfl (by rfl) (fun _ _ _ h => h) (fun w' hSw => ?_) ?_; rotate_left; · (go_simp; try with_reducible rfl)) | (refine planNo rfl (by rfl) (fun _ _ _ h => h) ?_)); (try simp only [Act.put, List.setIfInBounds_toArray, List.set_cons_zero, List.set_cons_succ]))
    refine Plan.tail_step ?_
    simp only [List.drop_succ_cons, List.drop_zero]
    clear hS
    go_wp2
    go_ret
    exact ⟨by rw [HC.out]; rfl, Ext.hold he0⟩

set_option maxHeartbeats 2000000 in
theorem dropFn_any (a : CacEntry) (v1 v2 vm : Value) (m : List Int) (g : Nat) (w : World) (hg : w.cell? ⟨g, 0, none⟩ = some vm) (hv1 : Sl w (Old w) v1 a.words) (hv2 : Sl w (Old w) v2 a.block.ops) (hm : Sl w (Old w) vm m) (hk : a.Ok) :
    Calls Try.prog 116 #[.agg #[v1, .int .i64 a.block.pc, .int .i64 a.block.len, v2, .int .i64 a.block.fin, .int .i64 a.block.x, .int .i64 a.block.y, .int .i64 a.block.k], .pointer (some ⟨g, 0, none⟩)] w fun e w' => e = .returned (.bool (!curB m a)) ∧ Ext w w' := by
  have hgl : g < w.heap.size := cell_lt hg
  obtain ⟨A1, c1, rfl, -, -⟩ := hv1.form
  obtain ⟨A2, c2, rfl, -, -⟩ := hv2.form
  obtain ⟨A3, c3, rfl, -, -⟩ := hm.form
  go_enter Try.func116, Try.ntmps116
  go_wp2_with fail
  refine (current_any a m _ _ _ _ (hv1.ext Ext.auto) (hv2.ext Ext.auto) (hm.ext Ext.auto) hk).mono ?_
  rintro e w1 ⟨rfl, hx⟩
  go_wp2
  go_ret
  exact ⟨rfl, Ext.trans Ext.auto hx⟩

set_option maxHeartbeats 8000000 in
theorem implCacDrop_any (l : List CacEntry) (mem : List Int) (vl vmem : Value) (w : World) (hl : Sl w (Old w) vl l) (hmem : Sl w (Old w) vmem mem) (hn : Bulk.blk l ≤ 4194300) :
    Calls Try.prog 66 #[vl, vmem] w fun e w' => ∃ r F, e = .returned r ∧ OwnSl w' r (cacDrop l mem) F ∧ Fr w w' F ∧ Ext w w' := by
  obtain ⟨A1, c1, rfl, hl1, hm1⟩ := hl.form
  obtain ⟨A2, c2, rfl, hl2, hm2⟩ := hmem.form
  have hbl := blk_len l
  go_enter Try.func66, Try.ntmps66
  go_wp2_with fail
  have he0 : Ext w (w.alloc (.cells #[.slice A2 mem.length c2] 63)) := Ext.auto
  have hB0 : Bx (w.alloc (.cells #[.slice A2 mem.length c2] 63)) w.heap.size [.slice A2 mem.length c2] := Bx.new w #[.slice A2 mem.length c2] 63
  have hs0 : w.heap.size < (w.alloc (.cells #[.slice A2 mem.length c2] 63)).heap.size := by simp
  generalize (w.alloc (.cells #[.slice A2 mem.length c2] 63)) = w0 at *
  refine (cloneCache_app l _ _ (hl.ext he0) (by omega)).mono ?_
  rintro e w1 ⟨r, Fs, xs, rfl, hA⟩
  have hB1 := hA.ext.bx hB0 hs0
  go_wp2_with fail
  refine (deleteFunc_116 l r _ (fun a => !curB mem a) w0 w1 Fs xs (fun w' => w0.heap.size ≤ w'.heap.size ∧ w'.cell? ⟨w.heap.size, 0, none⟩ = some (.slice A2 mem.length c2) ∧ Sl w' (Old w) (.slice A2 mem.length c2) mem)
    (fun x y h hx => ⟨Nat.le_trans h.1 hx.size, (hx.cell (cell_lt h.2.1)).trans h.2.1, h.2.2.keep (fun b o hb => hx.cell (by have h1 := h.1; have hb : b < w.heap.size := hb; omega)) (fun _ hb => hb)⟩)
    (fun g x vs off hg h => ⟨by rw [size_sets]; exact h.1, (World.cell?_setCells_out _ _ _ _ _ (fun e => by exfalso; have e : w.heap.size = g := e; omega)).trans h.2.1, h.2.2.keep (fun b o hb => World.cell?_setCells_out _ _ _ _ _ (fun e => by exfalso; have e : b = g := e; have hb : b < w.heap.size := hb; omega)) (fun _ hb => hb)⟩)
    (fun a v1 v2 x hC h1 h2 hk => dropFn_any a v1 v2 _ mem _ x hC.2.1 h1 h2 (hC.2.2.keep (fun _ _ _ => rfl) (fun b hb => by have h1 := hC.1; have hb : b < w.heap.size := hb; show b < x.heap.size; omega)) hk)
    ⟨hA.ext.size, hB1 0 _ rfl, hmem.keep (fun b o hb => (he0.trans hA.ext).cell hb) (fun _ hb => hb)⟩ hA (by omega)).mono ?_
  rintro e w2 ⟨r2, rfl, hR, hE⟩
  have HF : l.filter (fun a => !(!curB mem a)) = cacDrop l mem := by
    unfold cacDrop
    congr 1
    funext a
    simp
  rw [HF] at hR
  clear HF
  have hL1 := blk_cacDrop l mem
  obtain ⟨A3, c3, rfl, -, -⟩ := hR.sl.form
  go_wp2_with fail
  refine (cloneCache_any (cacDrop l mem) _ _ hR.sl (by omega)).mono ?_
  rintro e w3 ⟨r5, F5, rfl, ho5, hf5, hx5⟩
  go_wp2
  go_ret
  exact ⟨r5, F5, rfl, ho5, hf5.down (he0.trans hE), (he0.trans hE).trans hx5⟩

set_option maxHeartbeats 8000000 in
theorem specCacDrop_any (l : List CacEntry) (mem : List Int) (vl vmem : Value) (w : World) (hl : Sl w (Old w) vl l) (hmem : Sl w (Old w) vmem mem) (hn : Bulk.blk l ≤ 4194300) :
    Calls Try.prog 64 #[vl, vmem] w fun e w' => ∃ r F, e = .returned r ∧ OwnSl w' r (cacDrop l mem) F ∧ Fr w w' F ∧ Ext w w' := by
  obtain ⟨Al, cl, rfl, hll, hml⟩ := hl.form
  obtain ⟨Amem, cmem, rfl, hlmem, hmmem⟩ := hmem.form
  unfold maxLen at hml hmmem
  have hbl := blk_len l
  obtain ⟨i0, hi, hz0, hz1, hz2⟩ := info_parts infCacEntry
  have HI := hide hi
  have HZ0 := hide hz0
  have HZ1 := hide hz1
  have HZ2 := hide hz2
  clear hi hz0 hz1 hz2
  go_enter Try.func64, Try.ntmps64
  go_wp2
  go_loopw [5, 6] (fun v i wr => ∃ (k : Nat) (Fs : List (List Nat)) (xs : List Value), k ≤ l.length ∧ i = .int .i64 k ∧ App w wr 72 v ((l.take k).filter (curB mem)) Fs xs) (fun _ i _ => l.length - (intOf i).toNat)
  case atStart => exact ⟨0, [], [], by omega, rfl, App.emptyAt w 72 _ (by first | rfl | simp)⟩
  case round =>
    obtain ⟨k, Fs, xs, hk, rfl, hA⟩ := hrel
    obtain ⟨w1, hw1⟩ : ∃ w1 : World, w1 = wr := ⟨_, rfl⟩
    subst hw1
    have hs1 := hA.ext.size
    have he1 := hA.ext
    have hfl : ((l.take k).filter (curB mem)).length ≤ l.length := Nat.le_trans (List.length_filter_le _ _) (by simp; omega)
    by_cases hlt : k < l.length
    · 
      obtain ⟨b, off, v1, v2, rfl, hbo, hk0, hv1, hv2, e0, e1, e2, e3, e4, e5, e6, e7⟩ := at_CacEntry (hl.ext hA.ext) hlt
      have hbl1 : b < w1.heap.size := hbo
      have z0 : (0 : Int) ≤ (k : Int) := by omega
      have z1 : (k : Int) < (l.length : Int) := by omega
      have hbk := blk_el l k hlt
      have HB := hide (show Bulk.blk l[k] = Bulk.blk l[k].words + Bulk.blk l[k].block.ops from rfl)
      have HF := hide (filter_snoc (curB mem) l k hlt)
      have hfp : -9223372036854775808 ≤ l[k].block.pc ∧ l[k].block.pc ≤ 9223372036854775807 := hk0.1
      obtain ⟨Av1, cv1, rfl, -, -⟩ := hv1.form
      obtain ⟨Av2, cv2, rfl, -, -⟩ := hv2.form
      by_cases hp : 0 ≤ l[k].block.pc
      · 
        have q1 : decide (0 ≤ l[k].block.pc) = true := by simp [hp]
        have HC := hide (show curB mem l[k] = thereB mem l[k].block.pc.toNat l[k].words by unfold curB; simp [hp])
        go_upto_region 5 with fail
        have hS : ∀ w', Ext w1 w' → ∀ bb oo, bb < w1.heap.size → w'.cell? ⟨bb, oo, none⟩ = w1.cell? ⟨bb, oo, none⟩ := fun w' hx bb oo hb => hx.cell hb
        refine wp_region_plan (fun w' => Ext w1 w') 20 (.float 0 (.float 1 (.float 2 (.float 3 (.float 4 (.float 5 (.float 6 (.float 7 (.float 8 (.float 9 (.float 10 (.float 11 (.float 12 (.float 13 (.float 14 (.float 15 (.float 16 (.float 17 (.float 18 (.float 19 (.tail 20))))))))))))))))))))) (by kernel_rfl) (by kernel_rfl) (Ext.refl _).drew ?_
        iterate 8 ((refine Plan.float_step (v := ?_) rfl (by rfl) (fun _ _ _ h => h) (fun w' hSw => ?_) ?_; rotate_left; · (go_simp; try with_reducible rfl)); (try simp only [Act.put, List.setIfInBounds_toArray, List.set_cons_zero, List.set_cons_succ]))
        iterate 12 ((first | (refine Plan.float_step (v := ?_) rfl (by rfl) (fun _ _ _ h => h) (fun w' hSw => ?_) ?_; rotate_left; · (go_simp; try with_reducible rfl)) | (refine planNo rfl (by rfl) (fun _ _ _ h => h) ?_)); (try simp only [Act.put, List.setIfInBounds_toArray, List.set_cons_zero, List.set_cons_succ]))
        refine Plan.tail_step ?_
        simp only [List.drop_succ_cons, List.drop_zero]
        clear hS
        go_wp2_with fail
        refine (there_any l[k].words mem _ _ l[k].block.pc.toNat _ (by omega) (by omega) _ (hv1.ext Ext.auto) (hmem.ext (he1.trans Ext.auto))).mono ?_
        rintro e w3 ⟨rfl, hy⟩
        have hx3 : Ext w1 w3 := Ext.trans Ext.auto hy
        have hs3 := hx3.size
        have d0 := (hx3.cell hbl1).trans e0
        have d1 := (hx3.cell hbl1).trans e1
        have d2 := (hx3.cell hbl1).trans e2
        have d3 := (hx3.cell hbl1).trans e3
        have d4 := (hx3.cell hbl1).trans e4
        have d5 := (hx3.cell hbl1).trans e5
        have d6 := (hx3.cell hbl1).trans e6
        have d7 := (hx3.cell hbl1).trans e7
        clear hy e0 e1 e2 e3 e4 e5 e6 e7
        cases hq : thereB mem l[k].block.pc.toNat l[k].words
        · have HO := hide (show curB mem l[k] = false by rw [HC.out]; exact hq)
          go_wp2_with fail
          go_roundw
          case rel => exact ⟨k + 1, Fs, xs, by omega, by go_num, by rw [HF.out, HO.out]; simpa using hA.call hx3⟩
          case measure => (simp [intOf]; try omega)
        · have HO := hide (show curB mem l[k] = true by rw [HC.out]; exact hq)
          go_wp2_with fail
          refine (l12Entry_any l[k] _ _ _ (hv1.ext (hx3.trans Ext.auto)) (hv2.ext (hx3.trans Ext.auto)) (by have := HB.out; have := blk_len l[k].words; omega) (by have := HB.out; have := blk_len l[k].block.ops; omega)).mono ?_
          rintro e w2 ⟨r1, r2, F1, F2, rfl, hw1, hw2, hf, hx⟩
          have hx1 : Ext w1 w2 := hx3.trans (Ext.trans Ext.auto hx)
          have hf1 : Fr w1 w2 (F1 ++ F2) := hf.mk1 (by first | omega | (simp; omega)) (Nat.le_refl _)
          clear hf hx
          obtain ⟨B1, d1, rfl, -, -⟩ := hw1.sl.form
          obtain ⟨B2, d2, rfl, -, -⟩ := hw2.sl.form
          go_wp2_with (at_builtin; refine wpList_append_push (w0 := w) (wr := w1) rfl _ _ 68 rfl i0 _ 96 Try.underlying68 HI.out HZ0.out HZ1.out HZ2.out rfl (by decide) hA rfl l[k] _ _ (F1 ++ F2) _ rfl hx1 ⟨_, _, F1, F2, rfl, hk0, hw1, hw2, rfl⟩ hf1 (by repeat (first | (exact fun _ h => absurd h (List.not_mem_nil)) | (refine List.forall_mem_cons.2 ⟨rfl, ?_⟩))) (by unfold maxLen; first | omega | (simp [List.length_take]; omega)) (by first | omega | (simp [List.length_take]; omega)) ?_; intro v' w9 xs' hA9 hg9; clear hA)
          go_roundw
          case rel => exact ⟨k + 1, _, _, by omega, by go_num, by rw [HF.out, HO.out]; exact hA9⟩
          case measure => (simp [intOf]; try omega)
      · 
        have q1 : decide (0 ≤ l[k].block.pc) = false := by simp [hp]; try omega
        have HO := hide (show curB mem l[k] = false by unfold curB; simp [hp])
        go_upto_region 5 with fail
        have hS : ∀ w', Ext w1 w' → ∀ bb oo, bb < w1.heap.size → w'.cell? ⟨bb, oo, none⟩ = w1.cell? ⟨bb, oo, none⟩ := fun w' hx bb oo hb => hx.cell hb
        refine wp_region_plan (fun w' => Ext w1 w') 20 (.float 0 (.float 1 (.float 2 (.float 3 (.float 4 (.float 5 (.float 6 (.float 7 (.float 8 (.float 9 (.float 10 (.float 11 (.float 12 (.float 13 (.float 14 (.float 15 (.float 16 (.float 17 (.float 18 (.float 19 (.tail 20))))))))))))))))))))) (by kernel_rfl) (by kernel_rfl) (Ext.refl _).drew ?_
        iterate 8 ((refine Plan.float_step (v := ?_) rfl (by rfl) (fun _ _ _ h => h) (fun w' hSw => ?_) ?_; rotate_left; · (go_simp; try with_reducible rfl)); (try simp only [Act.put, List.setIfInBounds_toArray, List.set_cons_zero, List.set_cons_succ]))
        iterate 12 ((first | (refine Plan.float_step (v := ?_) rfl (by rfl) (fun _ _ _ h => h) (fun w' hSw => ?_) ?_; rotate_left; · (go_simp; try with_reducible rfl)) | (refine planNo rfl (by rfl) (fun _ _ _ h => h) ?_)); (try simp only [Act.put, List.setIfInBounds_toArray, List.set_cons_zero, List.set_cons_succ]))
        refine Plan.tail_step ?_
        simp only [List.drop_succ_cons, List.drop_zero]
        clear hS
        go_wp2_with fail
        go_roundw
        case rel => exact ⟨k + 1, Fs, xs, by omega, by go_num, by rw [HF.out, HO.out]; simpa using hA.call Ext.auto⟩
        case measure => (simp [intOf]; try omega)
    · 
      obtain rfl : k = l.length := by omega
      rw [List.take_length] at hA
      go_wp2
      go_ret
      obtain ⟨F9, hO9, hF9⟩ := hA.done
      exact ⟨_, F9, rfl, hO9, hF9, hA.ext⟩

end Go.Proofs.Ytjemadbhpbbhlaa
