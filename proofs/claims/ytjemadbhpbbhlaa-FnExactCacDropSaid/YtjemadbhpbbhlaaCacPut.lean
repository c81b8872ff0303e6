/-
  An entry is put into a cache: the program and the reference.
-/
import Derived.Test.YtjemadbhpbbhlaaDelF
import Derived.Test.YtjemadbhpbbhlaaCertLib
import Derived.Test.YtjemadbhpbbhlaaRegLib
import Derived.Deep.DeepCutAuto
namespace Go.Proofs.Ytjemadbhpbbhlaa
open Go.RowKit

set_option linter.unusedVariables false
set_option linter.unusedSimpArgs false
set_option maxRecDepth 100000

def otherB (o : CacEntry) (a : CacEntry) : Bool := !(a.block.pc == o.block.pc)
/-- What is kept, with one more, and what was kept for its place gone. -/
def cacPut (l : List CacEntry) (o : CacEntry) : List CacEntry := lastN 4 (l.filter (otherB o) ++ [o])
theorem blk_filter {α : Type} [Bulk α] (p : α → Bool) : ∀ l : List α, Bulk.blk (l.filter p) ≤ Bulk.blk l
  | [] => Nat.le_refl _
  | a :: l => by
    have h := blk_filter p l
    rw [blk_list, blk_list] at h
    rw [blk_list, blk_list]
    simp only [List.filter_cons]
    split <;> simp at h ⊢ <;> omega
theorem blk_cacPut (l : List CacEntry) (o : CacEntry) : Bulk.blk (cacPut l o) ≤ Bulk.blk l + 1 + Bulk.blk o := by
  have h := blk_lastN 4 (l.filter (otherB o) ++ [o])
  rw [blk_snoc] at h
  have h2 := blk_filter (otherB o) l
  exact Nat.le_trans h (by omega)
theorem filter_snoc {α : Type} (p : α → Bool) (l : List α) (i : Nat) (hi : i < l.length) : (l.take (i + 1)).filter p = (l.take i).filter p ++ (if p l[i] then [l[i]] else []) := by
  rw [List.take_succ_eq_append_getElem hi, List.filter_append]
  congr 1
  split <;> simp_all

set_option maxHeartbeats 1000000 in
theorem putFn_any (a : CacEntry) (v1 v2 : Value) (pc : Int) (g : Nat) (w : World) (hg : w.cell? ⟨g, 1, none⟩ = some (.int .i64 pc)) :
    Calls Try.prog 106 #[.agg #[v1, .int .i64 a.block.pc, .int .i64 a.block.len, v2, .int .i64 a.block.fin, .int .i64 a.block.x, .int .i64 a.block.y, .int .i64 a.block.k], .pointer (some ⟨g, 0, none⟩)] w fun e w' => e = .returned (.bool (a.block.pc == pc)) ∧ Ext w w' := by
  have hgl : g < w.heap.size := cell_lt hg
  go_enter Try.func106, Try.ntmps106
  go_wp2
  go_ret
  exact ⟨rfl, (Ext.refl _).alloc _⟩

set_option maxHeartbeats 8000000 in
theorem implCacPut_any (l : List CacEntry) (o : CacEntry) (vl vo1 vo2 : Value) (w : World) (hl : Sl w (Old w) vl l) (ho1 : Sl w (Old w) vo1 o.words) (ho2 : Sl w (Old w) vo2 o.block.ops) (hko : o.Ok) (hn : Bulk.blk l + Bulk.blk o ≤ 4194300) :
    Calls Try.prog 54 #[vl, .agg #[vo1, .int .i64 o.block.pc, .int .i64 o.block.len, vo2, .int .i64 o.block.fin, .int .i64 o.block.x, .int .i64 o.block.y, .int .i64 o.block.k]] w fun e w' => ∃ r F, e = .returned r ∧ OwnSl w' r (cacPut l o) F ∧ Fr w w' F ∧ Ext w w' := by
  obtain ⟨Al, cl, rfl, hll, hml⟩ := hl.form
  obtain ⟨Ao1, co1, rfl, hlo1, hmo1⟩ := ho1.form
  obtain ⟨Ao2, co2, rfl, hlo2, hmo2⟩ := ho2.form
  have hbl := blk_len l
  obtain ⟨i0, hi, hz0, hz1, hz2⟩ := info_parts infCacEntry
  have HI := hide hi
  have HZ0 := hide hz0
  have HZ1 := hide hz1
  have HZ2 := hide hz2
  clear hi hz0 hz1 hz2
  go_enter Try.func54, Try.ntmps54
  go_wp2_with fail
  have he0 : Ext w (w.alloc (Obj.cells #[(.slice Ao1 o.words.length co1), .int .i64 o.block.pc, .int .i64 o.block.len, (.slice Ao2 o.block.ops.length co2), .int .i64 o.block.fin, .int .i64 o.block.x, .int .i64 o.block.y, .int .i64 o.block.k] 72)) := (Ext.auto)
  have hs0 : w.heap.size + 1 ≤ ((w.alloc (Obj.cells #[(.slice Ao1 o.words.length co1), .int .i64 o.block.pc, .int .i64 o.block.len, (.slice Ao2 o.block.ops.length co2), .int .i64 o.block.fin, .int .i64 o.block.x, .int .i64 o.block.y, .int .i64 o.block.k] 72))).heap.size := by simp
  have hq0 := hide (show ((w.alloc (Obj.cells #[(.slice Ao1 o.words.length co1), .int .i64 o.block.pc, .int .i64 o.block.len, (.slice Ao2 o.block.ops.length co2), .int .i64 o.block.fin, .int .i64 o.block.x, .int .i64 o.block.y, .int .i64 o.block.k] 72))).heap.size = w.heap.size + 1 by simp)
  have hBo_0 : Bx (w.alloc (Obj.cells #[(.slice Ao1 o.words.length co1), .int .i64 o.block.pc, .int .i64 o.block.len, (.slice Ao2 o.block.ops.length co2), .int .i64 o.block.fin, .int .i64 o.block.x, .int .i64 o.block.y, .int .i64 o.block.k] 72)) (w.heap.size) [(.slice Ao1 o.words.length co1), .int .i64 o.block.pc, .int .i64 o.block.len, (.slice Ao2 o.block.ops.length co2), .int .i64 o.block.fin, .int .i64 o.block.x, .int .i64 o.block.y, .int .i64 o.block.k] := (by have := (Bx.new w #[(.slice Ao1 o.words.length co1), .int .i64 o.block.pc, .int .i64 o.block.len, (.slice Ao2 o.block.ops.length co2), .int .i64 o.block.fin, .int .i64 o.block.x, .int .i64 o.block.y, .int .i64 o.block.k] 72); simpa using this)
  have hFo_0 : ∀ oo, ((w.alloc (Obj.cells #[(.slice Ao1 o.words.length co1), .int .i64 o.block.pc, .int .i64 o.block.len, (.slice Ao2 o.block.ops.length co2), .int .i64 o.block.fin, .int .i64 o.block.x, .int .i64 o.block.y, .int .i64 o.block.k] 72))).frozen? ⟨w.heap.size, oo, none⟩ = false := fun oo => by simp
  generalize (w.alloc (Obj.cells #[(.slice Ao1 o.words.length co1), .int .i64 o.block.pc, .int .i64 o.block.len, (.slice Ao2 o.block.ops.length co2), .int .i64 o.block.fin, .int .i64 o.block.x, .int .i64 o.block.y, .int .i64 o.block.k] 72)) = w0 at *
  refine (cloneCache_app l _ _ (hl.ext he0) (by omega)).mono ?_
  rintro e w1 ⟨r, Fs, xs, rfl, hA⟩
  have hB1 := hA.ext.bx hBo_0 (by omega)
  have hlt0 : w.heap.size < w0.heap.size := by omega
  go_wp2_with fail
  refine (deleteFunc_106 l r _ (fun a => a.block.pc == o.block.pc) w0 w1 Fs xs (fun w' => w'.cell? ⟨w.heap.size, 1, none⟩ = some (.int .i64 o.block.pc)) (fun _ _ h hx => (hx.cell (cell_lt h)).trans h) (fun g w' vs off hg h => (World.cell?_setCells_out _ _ _ _ _ (fun e => by exfalso; have e : w.heap.size = g := e; omega)).trans h) (fun a v1 v2 w' hC _ _ _ => putFn_any a v1 v2 _ _ w' hC) (hB1 1 _ rfl) hA (by omega)).mono ?_
  rintro e w2 ⟨r2, rfl, hR, hE⟩
  have HP := hide (show cacPut l o = lastN 4 (l.filter (fun a => !(a.block.pc == o.block.pc)) ++ [o]) from rfl)
  have hL1 := blk_filter (fun a : CacEntry => !(a.block.pc == o.block.pc)) l
  generalize l.filter (fun a => !(a.block.pc == o.block.pc)) = L at hR HP hL1
  have hL2 := blk_len L
  have hB2 := hE.bx hBo_0 (by omega)
  have hs2 := hE.size
  clear hA hB1
  have yo : w.heap.size < w2.heap.size := by omega
  have xo0 := hB2 0 _ rfl
  have xo1 := hB2 1 _ rfl
  have xo2 := hB2 2 _ rfl
  have xo3 := hB2 3 _ rfl
  have xo4 := hB2 4 _ rfl
  have xo5 := hB2 5 _ rfl
  have xo6 := hB2 6 _ rfl
  have xo7 := hB2 7 _ rfl
  have hE2 : Ext w w2 := he0.trans hE
  go_wp2_with (at_builtin; go_must (refine wpList_append_rapp (w0 := w0) rfl _ _ 68 rfl i0 _ 96 Try.underlying68 HI.out HZ0.out HZ1.out HZ2.out rfl (by decide) (hR.ext ((Ext.refl _).alloc _)) (hE.alloc _) rfl o [(.slice Ao1 o.words.length co1), .int .i64 o.block.pc, .int .i64 o.block.len, (.slice Ao2 o.block.ops.length co2), .int .i64 o.block.fin, .int .i64 o.block.x, .int .i64 o.block.y, .int .i64 o.block.k] _ _ rfl (cells_new w2 #[(.slice Ao1 o.words.length co1), .int .i64 o.block.pc, .int .i64 o.block.len, (.slice Ao2 o.block.ops.length co2), .int .i64 o.block.fin, .int .i64 o.block.x, .int .i64 o.block.y, .int .i64 o.block.k] 72) ⟨_, _, rfl, hko, ho1.ext he0, ho2.ext he0⟩ (by repeat (first | (exact fun _ h => absurd h (List.not_mem_nil)) | (refine List.forall_mem_cons.2 ⟨rfl, ?_⟩))) (by unfold maxLen; omega) (by omega) ?_); intro v' w3 hr3 hE3; obtain ⟨A3, c3, rfl, -, -⟩ := hr3.form)
  rw [show (L ++ [o]).length = L.length + 1 by simp] at hr3
  refine (lastOfCac_any (L ++ [o]) _ 4 _ hr3 (by simp) (by simp; omega) (by omega) (by omega)).mono ?_
  rintro e w' ⟨r4, rfl, hr4, rfl⟩
  go_wp2_with fail
  refine (cloneCache_any (lastN 4 (L ++ [o])) _ _ hr4 (by have h1 := blk_lastN 4 (L ++ [o]); rw [blk_snoc] at h1; omega)).mono ?_
  rintro e w5 ⟨r5, F5, rfl, ho5, hf5, hx5⟩
  go_wp2
  go_ret
  exact ⟨_, F5, rfl, by rw [HP.out]; exact ho5, hf5.down (he0.trans hE3), (he0.trans hE3).trans hx5⟩

set_option maxHeartbeats 8000000 in
theorem specCacPut_any (l : List CacEntry) (o : CacEntry) (vl vo1 vo2 : Value) (w : World) (hl : Sl w (Old w) vl l) (ho1 : Sl w (Old w) vo1 o.words) (ho2 : Sl w (Old w) vo2 o.block.ops) (hko : o.Ok) (hn : Bulk.blk l + Bulk.blk o ≤ 4194300) :
    Calls Try.prog 51 #[vl, .agg #[vo1, .int .i64 o.block.pc, .int .i64 o.block.len, vo2, .int .i64 o.block.fin, .int .i64 o.block.x, .int .i64 o.block.y, .int .i64 o.block.k]] w fun e w' => ∃ r F, e = .returned r ∧ OwnSl w' r (cacPut l o) F ∧ Fr w w' F ∧ Ext w w' := by
  obtain ⟨Al, cl, rfl, hll, hml⟩ := hl.form
  obtain ⟨Ao1, co1, rfl, hlo1, hmo1⟩ := ho1.form
  obtain ⟨Ao2, co2, rfl, hlo2, hmo2⟩ := ho2.form
  unfold maxLen at hml
  have hbl := blk_len l
  have HP := hide (show Bulk.blk o = Bulk.blk o.words + Bulk.blk o.block.ops from rfl)
  obtain ⟨i0, hi, hz0, hz1, hz2⟩ := info_parts infCacEntry
  have HI := hide hi
  have HZ0 := hide hz0
  have HZ1 := hide hz1
  have HZ2 := hide hz2
  clear hi hz0 hz1 hz2
  go_enter Try.func51, Try.ntmps51
  go_wp2_with fail
  have he0 : Ext w (w.alloc (Obj.cells #[(.slice Ao1 o.words.length co1), .int .i64 o.block.pc, .int .i64 o.block.len, (.slice Ao2 o.block.ops.length co2), .int .i64 o.block.fin, .int .i64 o.block.x, .int .i64 o.block.y, .int .i64 o.block.k] 72)) := (Ext.auto)
  have hs0 : w.heap.size + 1 ≤ ((w.alloc (Obj.cells #[(.slice Ao1 o.words.length co1), .int .i64 o.block.pc, .int .i64 o.block.len, (.slice Ao2 o.block.ops.length co2), .int .i64 o.block.fin, .int .i64 o.block.x, .int .i64 o.block.y, .int .i64 o.block.k] 72))).heap.size := by simp
  have hq0 := hide (show ((w.alloc (Obj.cells #[(.slice Ao1 o.words.length co1), .int .i64 o.block.pc, .int .i64 o.block.len, (.slice Ao2 o.block.ops.length co2), .int .i64 o.block.fin, .int .i64 o.block.x, .int .i64 o.block.y, .int .i64 o.block.k] 72))).heap.size = w.heap.size + 1 by simp)
  have hBo_0 : Bx (w.alloc (Obj.cells #[(.slice Ao1 o.words.length co1), .int .i64 o.block.pc, .int .i64 o.block.len, (.slice Ao2 o.block.ops.length co2), .int .i64 o.block.fin, .int .i64 o.block.x, .int .i64 o.block.y, .int .i64 o.block.k] 72)) (w.heap.size) [(.slice Ao1 o.words.length co1), .int .i64 o.block.pc, .int .i64 o.block.len, (.slice Ao2 o.block.ops.length co2), .int .i64 o.block.fin, .int .i64 o.block.x, .int .i64 o.block.y, .int .i64 o.block.k] := (by have := (Bx.new w #[(.slice Ao1 o.words.length co1), .int .i64 o.block.pc, .int .i64 o.block.len, (.slice Ao2 o.block.ops.length co2), .int .i64 o.block.fin, .int .i64 o.block.x, .int .i64 o.block.y, .int .i64 o.block.k] 72); simpa using this)
  have hFo_0 : ∀ oo, ((w.alloc (Obj.cells #[(.slice Ao1 o.words.length co1), .int .i64 o.block.pc, .int .i64 o.block.len, (.slice Ao2 o.block.ops.length co2), .int .i64 o.block.fin, .int .i64 o.block.x, .int .i64 o.block.y, .int .i64 o.block.k] 72))).frozen? ⟨w.heap.size, oo, none⟩ = false := fun oo => by simp
  generalize (w.alloc (Obj.cells #[(.slice Ao1 o.words.length co1), .int .i64 o.block.pc, .int .i64 o.block.len, (.slice Ao2 o.block.ops.length co2), .int .i64 o.block.fin, .int .i64 o.block.x, .int .i64 o.block.y, .int .i64 o.block.k] 72)) = w0 at *
  go_wp2
  go_loopw [5, 6] (fun v i wr => ∃ (k : Nat) (Fs : List (List Nat)) (xs : List Value), k ≤ l.length ∧ i = .int .i64 k ∧ App w0 wr 72 v ((l.take k).filter (otherB o)) Fs xs) (fun _ i _ => l.length - (intOf i).toNat)
  case atStart => exact ⟨0, [], [], by omega, rfl, App.emptyAt w0 72 _ hq0.out.symm⟩
  case round =>
    obtain ⟨k, Fs, xs, hk, rfl, hA⟩ := hrel
    obtain ⟨w1, hw1⟩ : ∃ w1 : World, w1 = wr := ⟨_, rfl⟩
    subst hw1
    have hB1 := hA.ext.bx hBo_0 (by omega)
    have hs1 := hA.ext.size
    have hfl : ((l.take k).filter (otherB o)).length ≤ l.length := Nat.le_trans (List.length_filter_le _ _) (by simp; omega)
    have yo : w.heap.size < w1.heap.size := by omega
    have xo0 := hB1 0 _ rfl
    have xo1 := hB1 1 _ rfl
    have xo2 := hB1 2 _ rfl
    have xo3 := hB1 3 _ rfl
    have xo4 := hB1 4 _ rfl
    have xo5 := hB1 5 _ rfl
    have xo6 := hB1 6 _ rfl
    have xo7 := hB1 7 _ rfl
    by_cases hlt : k < l.length
    · 
      obtain ⟨b, off, v1, v2, rfl, hbo, hk0, hv1, hv2, e0, e1, e2, e3, e4, e5, e6, e7⟩ := at_CacEntry (hl.ext (he0.trans hA.ext)) hlt
      have hbl1 : b < w1.heap.size := hbo
      have z0 : (0 : Int) ≤ (k : Int) := by omega
      have z1 : (k : Int) < (l.length : Int) := by omega
      have hbk := blk_el l k hlt
      have HB := hide (show Bulk.blk l[k] = Bulk.blk l[k].words + Bulk.blk l[k].block.ops from rfl)
      have HF := hide (filter_snoc (otherB o) l k hlt)
      obtain ⟨Av1, cv1, rfl, -, -⟩ := hv1.form
      obtain ⟨Av2, cv2, rfl, -, -⟩ := hv2.form
      by_cases hq : l[k].block.pc = o.block.pc
      · 
        have q1 : (l[k].block.pc != o.block.pc) = false := by simp [hq]
        have HO := hide (show otherB o l[k] = false by simp [otherB, hq])
        clear hq
        go_upto_region 5 with fail
        have hS : ∀ w', Ext w1 w' → ∀ bb oo, bb < w1.heap.size → w'.cell? ⟨bb, oo, none⟩ = w1.cell? ⟨bb, oo, none⟩ := fun w' hx bb oo hb => hx.cell hb
        refine wp_region_plan (fun w' => Ext w1 w') 9 (.float 0 (.float 1 (.float 2 (.float 3 (.float 4 (.float 5 (.float 6 (.float 7 (.float 8 (.tail 9)))))))))) (by kernel_rfl) (by kernel_rfl) (Ext.refl _).drew ?_
        iterate 9 ((refine Plan.float_step (v := ?_) rfl (by rfl) (fun _ _ _ h => h) (fun w' hSw => ?_) ?_; rotate_left; · (go_simp; try with_reducible rfl)); (try simp only [Act.put, List.setIfInBounds_toArray, List.set_cons_zero, List.set_cons_succ]))
        refine Plan.tail_step ?_
        simp only [List.drop_succ_cons, List.drop_zero]
        clear hS
        go_wp2_with fail
        go_roundw
        case rel => exact ⟨k + 1, Fs, xs, by omega, by go_num, by rw [HF.out, HO.out]; simpa using hA.call Ext.auto⟩
        case measure => (simp [intOf]; try omega)
      · 
        have q1 : (l[k].block.pc != o.block.pc) = true := by simp [hq]
        have HO := hide (show otherB o l[k] = true by simp [otherB, hq])
        clear hq
        go_upto_region 5 with fail
        have hS : ∀ w', Ext w1 w' → ∀ bb oo, bb < w1.heap.size → w'.cell? ⟨bb, oo, none⟩ = w1.cell? ⟨bb, oo, none⟩ := fun w' hx bb oo hb => hx.cell hb
        refine wp_region_plan (fun w' => Ext w1 w') 9 (.float 0 (.float 1 (.float 2 (.float 3 (.float 4 (.float 5 (.float 6 (.float 7 (.float 8 (.tail 9)))))))))) (by kernel_rfl) (by kernel_rfl) (Ext.refl _).drew ?_
        iterate 9 ((refine Plan.float_step (v := ?_) rfl (by rfl) (fun _ _ _ h => h) (fun w' hSw => ?_) ?_; rotate_left; · (go_simp; try with_reducible rfl)); (try simp only [Act.put, List.setIfInBounds_toArray, List.set_cons_zero, List.set_cons_succ]))
        refine Plan.tail_step ?_
        simp only [List.drop_succ_cons, List.drop_zero]
        clear hS
        go_wp2_with fail
        refine (l12Entry_any l[k] _ _ _ (hv1.ext Ext.auto) (hv2.ext Ext.auto) (by have := HB.out; have := blk_len l[k].words; omega) (by have := HB.out; have := blk_len l[k].block.ops; omega)).mono ?_
        rintro e w2 ⟨r1, r2, F1, F2, rfl, hw1, hw2, hf, hx⟩
        have hx1 : Ext w1 w2 := Ext.trans Ext.auto hx
        have hf1 : Fr w1 w2 (F1 ++ F2) := hf.mk1 (by simp) (Nat.le_refl _)
        clear hf hx
        obtain ⟨B1, d1, rfl, -, -⟩ := hw1.sl.form
        obtain ⟨B2, d2, rfl, -, -⟩ := hw2.sl.form
        go_wp2_with (at_builtin; refine wpList_append_push (w0 := w0) (wr := w1) rfl _ _ 68 rfl i0 _ 96 Try.underlying68 HI.out HZ0.out HZ1.out HZ2.out rfl (by decide) hA rfl l[k] _ _ (F1 ++ F2) _ rfl hx1 ⟨_, _, F1, F2, rfl, hk0, hw1, hw2, rfl⟩ hf1 (by repeat (first | (exact fun _ h => absurd h (List.not_mem_nil)) | (refine List.forall_mem_cons.2 ⟨rfl, ?_⟩))) (by unfold maxLen; first | omega | (simp [List.length_take]; omega)) (by first | omega | (simp [List.length_take]; omega)) ?_; intro v' w9 xs' hA9 hg9; clear hA)
        go_roundw
        case rel => exact ⟨k + 1, _, _, by omega, by go_num, by rw [HF.out, HO.out]; exact hA9⟩
        case measure => (simp [intOf]; try omega)
    · 
      obtain rfl : k = l.length := by omega
      rw [List.take_length] at hA hfl
      have HL := hide (show cacPut l o = lastN 4 (l.filter (otherB o) ++ [o]) from rfl)
      generalize l.filter (otherB o) = L at hA hfl HL
      have hE0 : Ext w w1 := he0.trans hA.ext
      go_wp2_with fail
      refine (l12Entry_any o _ _ _ (ho1.ext hE0) (ho2.ext hE0) (by have := HP.out; have := blk_len o.words; omega) (by have := HP.out; have := blk_len o.block.ops; omega)).mono ?_
      rintro e w2 ⟨r1, r2, F1, F2, rfl, hw1, hw2, hf, hx⟩
      have hx1 : Ext w1 w2 := hx
      have hf1 : Fr w1 w2 (F1 ++ F2) := hf
      have hk0 := hko
      clear hf hx
      obtain ⟨B1, d1, rfl, -, -⟩ := hw1.sl.form
      obtain ⟨B2, d2, rfl, -, -⟩ := hw2.sl.form
      by_cases hq : 4 < L.length + 1
      · go_wp2_with (at_builtin; refine wpList_append_push (w0 := w0) (wr := w1) rfl _ _ 68 rfl i0 _ 96 Try.underlying68 HI.out HZ0.out HZ1.out HZ2.out rfl (by decide) hA rfl o _ _ (F1 ++ F2) _ rfl hx1 ⟨_, _, F1, F2, rfl, hk0, hw1, hw2, rfl⟩ hf1 (by repeat (first | (exact fun _ h => absurd h (List.not_mem_nil)) | (refine List.forall_mem_cons.2 ⟨rfl, ?_⟩))) (by unfold maxLen; first | omega | (simp [List.length_take]; omega)) (by first | omega | (simp [List.length_take]; omega)) ?_; intro v' w9 xs' hA9 hg9; clear hA; go_must (obtain ⟨F9, hO9, hF9⟩ := hA9.done); go_must (obtain ⟨A9, c9, rfl, hl9, hm9⟩ := hO9.sl.form); go_must (obtain ⟨b9, off9, F8, rfl, hO8, hF8⟩ := OwnSl.drop hO9 hF9 (k := (L ++ [o]).length - 4) (by simp; omega)); have hE9 := hA9.ext; go_must (have HC := hide (show cacPut l o = (L ++ [o]).drop ((L ++ [o]).length - 4) from HL.out)); go_must (unfold maxLen at hm9); go_must (simp only [List.length_append, List.length_cons, List.length_nil, Nat.zero_add] at hO8 HC hl9); go_must (have z0 : (0 : Int) ≤ ((L.length : Int) + 1 - 4) := by omega); go_must (have z4 : L.length + 1 - 4 < c9 := by omega); go_must (have z5 : ¬ c9 = L.length + 1 - 4 := by omega); go_must (clear hA9 hO9))
        go_ret
        exact ⟨_, F8, rfl, by rw [HC.out]; exact hO8, hF8.down he0, he0.trans hE9⟩
      · go_wp2_with (at_builtin; refine wpList_append_push (w0 := w0) (wr := w1) rfl _ _ 68 rfl i0 _ 96 Try.underlying68 HI.out HZ0.out HZ1.out HZ2.out rfl (by decide) hA rfl o _ _ (F1 ++ F2) _ rfl hx1 ⟨_, _, F1, F2, rfl, hk0, hw1, hw2, rfl⟩ hf1 (by repeat (first | (exact fun _ h => absurd h (List.not_mem_nil)) | (refine List.forall_mem_cons.2 ⟨rfl, ?_⟩))) (by unfold maxLen; first | omega | (simp [List.length_take]; omega)) (by first | omega | (simp [List.length_take]; omega)) ?_; intro v' w9 xs' hA9 hg9; clear hA; obtain ⟨F9, hO9, hF9⟩ := hA9.done; obtain ⟨A9, c9, rfl, hl9, hm9⟩ := hO9.sl.form; have hE9 := hA9.ext; have HC := hide (show cacPut l o = L ++ [o] by rw [HL.out]; unfold lastN; rw [Nat.sub_eq_zero_of_le (by simp; omega)]; rfl); simp only [List.length_append, List.length_cons, List.length_nil, Nat.zero_add] at hO9; clear hA9)
        go_ret
        exact ⟨_, F9, rfl, by rw [HC.out]; exact hO9, hF9.down he0, he0.trans hE9⟩

end Go.Proofs.Ytjemadbhpbbhlaa
