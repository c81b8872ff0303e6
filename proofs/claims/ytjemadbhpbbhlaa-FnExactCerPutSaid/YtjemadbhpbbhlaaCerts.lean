/-
  The program and the reference put a pair into a cache of pairs.
-/
import Derived.Test.YtjemadbhpbbhlaaClonePair
import Derived.Test.YtjemadbhpbbhlaaCertLib
namespace Go.Proofs.Ytjemadbhpbbhlaa
open Go.RowKit

set_option linter.unusedVariables false
set_option linter.unusedSimpArgs false
set_option maxRecDepth 100000

/-- A pair put into a cache of pairs. -/
def cerPut (l : List CerPair) (p : CerPair) : List CerPair := lastN 3 (l ++ [p])
theorem blk_cerPut (l : List CerPair) (p : CerPair) : Bulk.blk (cerPut l p) ≤ Bulk.blk l + 1 + Bulk.blk p := by
  have h := blk_lastN 3 (l ++ [p])
  rw [blk_snoc] at h
  exact h

set_option maxHeartbeats 2000000 in
theorem cloneCerts_app (l : List CerPair) (v : Value) (w : World) (h : Sl w (Old w) v l) (hn : Bulk.blk l ≤ 4194304) :
    Calls Try.prog 93 #[v] w fun e w' => ∃ r Fs xs, e = .returned r ∧ App w w' 54 r l Fs xs := by
  obtain ⟨A, c, rfl, hl, hm⟩ := h.form
  unfold maxLen at hm
  have hbl := blk_len l
  obtain ⟨i0, hi, hz0, hz1, hz2⟩ := info_parts infCerPair
  have HI := hide hi
  have HZ0 := hide hz0
  have HZ1 := hide hz1
  have HZ2 := hide hz2
  clear hi hz0 hz1 hz2
  go_enter Try.func93, Try.ntmps93
  go_wp2
  go_loopw [3, 8] (fun v i wr => ∃ (k : Nat) (Fs : List (List Nat)) (xs : List Value), k ≤ l.length ∧ i = .int .i64 k ∧ App w wr 54 v (l.take k) Fs xs) (fun _ i _ => l.length - (intOf i).toNat)
  case atStart => exact ⟨0, [], [], by omega, rfl, App.nil w 54⟩
  case round =>
    obtain ⟨k, Fs, xs, hk, rfl, hA⟩ := hrel
    by_cases hlt : k < l.length
    · obtain ⟨b, off, v1, v2, rfl, hbo, hk0, hv1, hv2, e0, e1, e2, e3, e4, e5, e6, e7, e8, e9, e10, e11, e12, e13⟩ := at_CerPair (h.ext hA.ext) hlt
      have z0 : (0 : Int) ≤ (k : Int) := by omega
      have z1 : (k : Int) < (l.length : Int) := by omega
      have hbk := blk_el l k hlt
      have HB := hide (show Bulk.blk l[k] = Bulk.blk l[k].base.ops + Bulk.blk l[k].made.ops from rfl)
      obtain ⟨Av1, cv1, rfl, -, -⟩ := hv1.form
      obtain ⟨Av2, cv2, rfl, -, -⟩ := hv2.form
      go_wp2_with fail
      refine (clonePair_any l[k] _ _ _ (hv1.ext (by (repeat' (first | (with_reducible exact Ext.refl _) | (with_reducible apply Ext.alloc) | (with_reducible apply Ext.drewN) | (with_reducible apply Ext.drew) | (with_reducible refine Ext.setCell ?_ ?_ _))); all_goals (first | (simp; done) | (simp; omega) | omega))) (hv2.ext (by (repeat' (first | (with_reducible exact Ext.refl _) | (with_reducible apply Ext.alloc) | (with_reducible apply Ext.drewN) | (with_reducible apply Ext.drew) | (with_reducible refine Ext.setCell ?_ ?_ _))); all_goals (first | (simp; done) | (simp; omega) | omega))) (by have := HB.out; have := blk_len l[k].base.ops; omega) (by have := HB.out; have := blk_len l[k].made.ops; omega)).mono ?_
      rintro e w1 ⟨r1, r2, F1, F2, rfl, ho1, ho2, hf, hx⟩
      have hx1 : Ext wr w1 := Ext.trans (by (repeat' (first | (with_reducible exact Ext.refl _) | (with_reducible apply Ext.alloc) | (with_reducible apply Ext.drewN) | (with_reducible apply Ext.drew) | (with_reducible refine Ext.setCell ?_ ?_ _))); all_goals (first | (simp; done) | (simp; omega) | omega)) hx
      have hf1 : Fr wr w1 (F1 ++ F2) := hf.mk1 (by simp) (Nat.le_refl _)
      clear hf hx
      obtain ⟨B1, d1, rfl, -, -⟩ := ho1.sl.form
      obtain ⟨B2, d2, rfl, -, -⟩ := ho2.sl.form
      go_wp2_with (at_builtin; refine wpList_append_push (w0 := w) (wr := wr) rfl _ _ 50 rfl i0 _ 144 Try.underlying50 HI.out HZ0.out HZ1.out HZ2.out rfl (by decide) hA rfl l[k] _ _ (F1 ++ F2) _ rfl hx1 ⟨_, _, F1, F2, rfl, hk0, ho1, ho2, rfl⟩ hf1 (by repeat (first | (exact fun _ h => absurd h (List.not_mem_nil)) | (refine List.forall_mem_cons.2 ⟨rfl, ?_⟩))) (by unfold maxLen; first | omega | (simp [List.length_take]; omega)) (by first | omega | (simp [List.length_take]; omega)) ?_; intro v' w9 xs' hA9 hg9; clear hA)
      have HT := hide (List.take_succ_eq_append_getElem hlt)
      go_roundw
      case rel => exact ⟨k + 1, _, _, by omega, by go_num, by rw [HT.out]; exact hA9⟩
      case measure => simp [intOf]; omega
    · obtain rfl : k = l.length := by omega
      go_wp2
      go_ret
      rw [List.take_length] at hA
      exact ⟨_, _, _, rfl, hA⟩

theorem cloneCerts_any (l : List CerPair) (v : Value) (w : World) (h : Sl w (Old w) v l) (hn : Bulk.blk l ≤ 4194304) :
    Calls Try.prog 93 #[v] w fun e w' => ∃ r F, e = .returned r ∧ OwnSl w' r l F ∧ Fr w w' F ∧ Ext w w' :=
  (cloneCerts_app l v w h hn).mono fun e w' ⟨r, Fs, xs, he, hA⟩ => by
    obtain ⟨F, ho, hf⟩ := hA.done
    exact ⟨r, F, he, ho, hf, hA.ext⟩

set_option maxHeartbeats 1000000 in
theorem lastOfCer_any (l : List CerPair) (v : Value) (n : Nat) (w : World) (h : Sl w (Old w) v l) (h0 : 0 < l.length) (hn : l.length ≤ 4194304) (hn1 : 1 ≤ n) (hn2 : n ≤ 10) :
    Calls Try.prog 94 #[v, .int .i64 (n : Int)] w fun e w' => ∃ r, e = .returned r ∧ Sl w (Old w) r (lastN n l) ∧ w = w' := by
  obtain ⟨A, c, rfl, hl, hm⟩ := h.form
  unfold maxLen at hm
  obtain ⟨b, off, rfl⟩ : ∃ b off, A = some ⟨b, off, none⟩ := by
    obtain ⟨A', c', h1, _, _, _, h4⟩ := h
    injection h1 with e1
    subst e1
    obtain ⟨b, off, e, _⟩ := h4 (by intro e; simp [e] at h0)
    exact ⟨b, off, e⟩
  by_cases hlt : l.length ≤ n
  · have HL := hide (show lastN n l = l by unfold lastN; rw [Nat.sub_eq_zero_of_le hlt]; rfl)
    have z1 : ((l.length : Int) - (n : Int)) ≤ 0 := by omega
    have z2 : max 0 ((l.length : Int) - (n : Int)) = 0 := by omega
    go_enter Try.func94, Try.ntmps94
    go_wp2
    go_ret
    exact ⟨_, rfl, by rw [HL.out]; exact h, rfl⟩
  · obtain ⟨d, hd⟩ : ∃ d, l.length = n + d := ⟨l.length - n, by omega⟩
    have HD := hide hd
    have z0 : 0 ≤ ((l.length : Int) - (n : Int)) := by omega
    have z2 : max 0 ((l.length : Int) - (n : Int)) = ((l.length - n : Nat) : Int) := by omega
    have z3 : ((l.length - n : Nat) : Int) ≤ (l.length : Int) := by omega
    have z4 : l.length - n < c := by omega
    have z5 : ¬ c = l.length - n := by omega
    have hs := h.drop (k := l.length - n) (by omega)
    have HS := hide hs
    clear hs hd
    go_enter Try.func94, Try.ntmps94
    go_wp2
    go_ret
    exact ⟨_, rfl, HS.out, rfl⟩

set_option maxHeartbeats 4000000 in
theorem implCerPut_any (l : List CerPair) (p : CerPair) (vl vp1 vp2 : Value) (w : World) (hl : Sl w (Old w) vl l) (hp1 : Sl w (Old w) vp1 p.base.ops) (hp2 : Sl w (Old w) vp2 p.made.ops) (hkp : p.Ok) (hn : Bulk.blk l + Bulk.blk p ≤ 4194300) :
    Calls Try.prog 39 #[vl, .agg #[.int .i64 p.base.pc, .int .i64 p.base.len, vp1, .int .i64 p.base.fin, .int .i64 p.base.x, .int .i64 p.base.y, .int .i64 p.base.k, .int .i64 p.made.pc, .int .i64 p.made.len, vp2, .int .i64 p.made.fin, .int .i64 p.made.x, .int .i64 p.made.y, .int .i64 p.made.k]] w fun e w' => ∃ r F, e = .returned r ∧ OwnSl w' r (cerPut l p) F ∧ Fr w w' F ∧ Ext w w' := by
  obtain ⟨Al, cl, rfl, hll, hml⟩ := hl.form
  obtain ⟨Ap1, cp1, rfl, hlp1, hmp1⟩ := hp1.form
  obtain ⟨Ap2, cp2, rfl, hlp2, hmp2⟩ := hp2.form
  have hbl := blk_len l
  obtain ⟨i0, hi, hz0, hz1, hz2⟩ := info_parts infCerPair
  have HI := hide hi
  have HZ0 := hide hz0
  have HZ1 := hide hz1
  have HZ2 := hide hz2
  clear hi hz0 hz1 hz2
  go_enter Try.func39, Try.ntmps39
  go_wp2_with fail
  have he0 : Ext w (w.alloc (Obj.cells #[.int .i64 p.base.pc, .int .i64 p.base.len, (.slice Ap1 p.base.ops.length cp1), .int .i64 p.base.fin, .int .i64 p.base.x, .int .i64 p.base.y, .int .i64 p.base.k, .int .i64 p.made.pc, .int .i64 p.made.len, (.slice Ap2 p.made.ops.length cp2), .int .i64 p.made.fin, .int .i64 p.made.x, .int .i64 p.made.y, .int .i64 p.made.k] 54)) := (by (repeat' (first | (with_reducible exact Ext.refl _) | (with_reducible apply Ext.alloc) | (with_reducible apply Ext.drewN) | (with_reducible apply Ext.drew) | (with_reducible refine Ext.setCell ?_ ?_ _))); all_goals (first | (simp; done) | (simp; omega) | omega))
  have hs0 : w.heap.size + 1 ≤ ((w.alloc (Obj.cells #[.int .i64 p.base.pc, .int .i64 p.base.len, (.slice Ap1 p.base.ops.length cp1), .int .i64 p.base.fin, .int .i64 p.base.x, .int .i64 p.base.y, .int .i64 p.base.k, .int .i64 p.made.pc, .int .i64 p.made.len, (.slice Ap2 p.made.ops.length cp2), .int .i64 p.made.fin, .int .i64 p.made.x, .int .i64 p.made.y, .int .i64 p.made.k] 54))).heap.size := by simp
  have hq0 := hide (show ((w.alloc (Obj.cells #[.int .i64 p.base.pc, .int .i64 p.base.len, (.slice Ap1 p.base.ops.length cp1), .int .i64 p.base.fin, .int .i64 p.base.x, .int .i64 p.base.y, .int .i64 p.base.k, .int .i64 p.made.pc, .int .i64 p.made.len, (.slice Ap2 p.made.ops.length cp2), .int .i64 p.made.fin, .int .i64 p.made.x, .int .i64 p.made.y, .int .i64 p.made.k] 54))).heap.size = w.heap.size + 1 by simp)
  have hBp_0 : Bx (w.alloc (Obj.cells #[.int .i64 p.base.pc, .int .i64 p.base.len, (.slice Ap1 p.base.ops.length cp1), .int .i64 p.base.fin, .int .i64 p.base.x, .int .i64 p.base.y, .int .i64 p.base.k, .int .i64 p.made.pc, .int .i64 p.made.len, (.slice Ap2 p.made.ops.length cp2), .int .i64 p.made.fin, .int .i64 p.made.x, .int .i64 p.made.y, .int .i64 p.made.k] 54)) (w.heap.size) [.int .i64 p.base.pc, .int .i64 p.base.len, (.slice Ap1 p.base.ops.length cp1), .int .i64 p.base.fin, .int .i64 p.base.x, .int .i64 p.base.y, .int .i64 p.base.k, .int .i64 p.made.pc, .int .i64 p.made.len, (.slice Ap2 p.made.ops.length cp2), .int .i64 p.made.fin, .int .i64 p.made.x, .int .i64 p.made.y, .int .i64 p.made.k] := (by have := (Bx.new w #[.int .i64 p.base.pc, .int .i64 p.base.len, (.slice Ap1 p.base.ops.length cp1), .int .i64 p.base.fin, .int .i64 p.base.x, .int .i64 p.base.y, .int .i64 p.base.k, .int .i64 p.made.pc, .int .i64 p.made.len, (.slice Ap2 p.made.ops.length cp2), .int .i64 p.made.fin, .int .i64 p.made.x, .int .i64 p.made.y, .int .i64 p.made.k] 54); simpa using this)
  have hFp_0 : ∀ oo, ((w.alloc (Obj.cells #[.int .i64 p.base.pc, .int .i64 p.base.len, (.slice Ap1 p.base.ops.length cp1), .int .i64 p.base.fin, .int .i64 p.base.x, .int .i64 p.base.y, .int .i64 p.base.k, .int .i64 p.made.pc, .int .i64 p.made.len, (.slice Ap2 p.made.ops.length cp2), .int .i64 p.made.fin, .int .i64 p.made.x, .int .i64 p.made.y, .int .i64 p.made.k] 54))).frozen? ⟨w.heap.size, oo, none⟩ = false := fun oo => by simp
  generalize (w.alloc (Obj.cells #[.int .i64 p.base.pc, .int .i64 p.base.len, (.slice Ap1 p.base.ops.length cp1), .int .i64 p.base.fin, .int .i64 p.base.x, .int .i64 p.base.y, .int .i64 p.base.k, .int .i64 p.made.pc, .int .i64 p.made.len, (.slice Ap2 p.made.ops.length cp2), .int .i64 p.made.fin, .int .i64 p.made.x, .int .i64 p.made.y, .int .i64 p.made.k] 54)) = w0 at *
  have yp : w.heap.size < w0.heap.size := by omega
  have xp0 : w0.cell? ⟨w.heap.size, 0, none⟩ = some (.int .i64 p.base.pc) := hBp_0 0 _ rfl
  have xp1 : w0.cell? ⟨w.heap.size, 1, none⟩ = some (.int .i64 p.base.len) := hBp_0 1 _ rfl
  have xp2 : w0.cell? ⟨w.heap.size, 2, none⟩ = some ((.slice Ap1 p.base.ops.length cp1)) := hBp_0 2 _ rfl
  have xp3 : w0.cell? ⟨w.heap.size, 3, none⟩ = some (.int .i64 p.base.fin) := hBp_0 3 _ rfl
  have xp4 : w0.cell? ⟨w.heap.size, 4, none⟩ = some (.int .i64 p.base.x) := hBp_0 4 _ rfl
  have xp5 : w0.cell? ⟨w.heap.size, 5, none⟩ = some (.int .i64 p.base.y) := hBp_0 5 _ rfl
  have xp6 : w0.cell? ⟨w.heap.size, 6, none⟩ = some (.int .i64 p.base.k) := hBp_0 6 _ rfl
  have xp7 : w0.cell? ⟨w.heap.size, 7, none⟩ = some (.int .i64 p.made.pc) := hBp_0 7 _ rfl
  have xp8 : w0.cell? ⟨w.heap.size, 8, none⟩ = some (.int .i64 p.made.len) := hBp_0 8 _ rfl
  have xp9 : w0.cell? ⟨w.heap.size, 9, none⟩ = some ((.slice Ap2 p.made.ops.length cp2)) := hBp_0 9 _ rfl
  have xp10 : w0.cell? ⟨w.heap.size, 10, none⟩ = some (.int .i64 p.made.fin) := hBp_0 10 _ rfl
  have xp11 : w0.cell? ⟨w.heap.size, 11, none⟩ = some (.int .i64 p.made.x) := hBp_0 11 _ rfl
  have xp12 : w0.cell? ⟨w.heap.size, 12, none⟩ = some (.int .i64 p.made.y) := hBp_0 12 _ rfl
  have xp13 : w0.cell? ⟨w.heap.size, 13, none⟩ = some (.int .i64 p.made.k) := hBp_0 13 _ rfl
  go_wp2_with fail
  have hS : ∀ w', Ext w0 w' → ∀ bb oo, bb < w0.heap.size → w'.cell? ⟨bb, oo, none⟩ = w0.cell? ⟨bb, oo, none⟩ := fun w' hx bb oo hb => hx.cell hb
  refine wp_region_plan (fun w' => Ext w0 w') 4 (.float 0 (.float 2 (.fork 1 3 (.chain 3 (.tail 4)) (.chain 1 (.tail 4))))) (by kernel_rfl) (by kernel_rfl) (Ext.refl _).drew ?_
  (refine Plan.float_step (v := ?_) rfl (by rfl) (fun _ _ _ h => h) (fun w' hSw => ?_) ?_; rotate_left; · (go_simp; try with_reducible rfl)); (try simp only [Act.put, List.setIfInBounds_toArray, List.set_cons_zero, List.set_cons_succ])
  (refine Plan.float_step (v := ?_) rfl (by rfl) (fun _ _ _ h => h) (fun w' hSw => ?_) ?_; rotate_left; · (go_simp; try with_reducible rfl)); (try simp only [Act.put, List.setIfInBounds_toArray, List.set_cons_zero, List.set_cons_succ])
  clear xp0 xp1 xp2 xp3 xp4 xp5 xp6 xp7 xp8 xp9 xp10 xp11 xp12 xp13 yp
  clear hS
  refine Plan.fork_step ?_ ?_
  · refine Plan.chain_step rfl (fun K hK => ?_)
    go_simp
    refine (cloneCerts_app l _ _ (hl.ext (Ext.trans he0 (by (repeat' (first | (with_reducible exact Ext.refl _) | (with_reducible apply Ext.alloc) | (with_reducible apply Ext.drewN) | (with_reducible apply Ext.drew) | (with_reducible refine Ext.setCell ?_ ?_ _))); all_goals (first | (simp; done) | (simp; omega) | omega)))) (by omega)).mono ?_
    rintro e w1 ⟨r, Fs, xs, rfl, hA⟩
    refine hK.out _ _ (Ext.trans (by (repeat' (first | (with_reducible exact Ext.refl _) | (with_reducible apply Ext.alloc) | (with_reducible apply Ext.drewN) | (with_reducible apply Ext.drew) | (with_reducible refine Ext.setCell ?_ ?_ _))); all_goals (first | (simp; done) | (simp; omega) | omega)) hA.ext) ?_
    clear hK
    (try simp only [Act.put, List.setIfInBounds_toArray, List.set_cons_zero, List.set_cons_succ])
    refine Plan.chain_step rfl (fun K hK => ?_)
    go_simp
    refine hK.out _ _ ((Ext.trans (by (repeat' (first | (with_reducible exact Ext.refl _) | (with_reducible apply Ext.alloc) | (with_reducible apply Ext.drewN) | (with_reducible apply Ext.drew) | (with_reducible refine Ext.setCell ?_ ?_ _))); all_goals (first | (simp; done) | (simp; omega) | omega)) hA.ext).alloc _) ?_
    clear hK
    (try simp only [Act.put, List.setIfInBounds_toArray, List.set_cons_zero, List.set_cons_succ])
    refine Plan.tail_step ?_
    simp only [List.drop_succ_cons, List.drop_zero]
    go_wp2_with (at_builtin; refine wpList_append_read (w0 := w0.drew) (wr := w1) rfl _ _ 50 rfl i0 _ 144 Try.underlying50 HI.out HZ0.out HZ1.out HZ2.out rfl (by decide) hA rfl p _ _ _ rfl ((Ext.refl _).alloc _) (cells_new w1 #[.int .i64 p.base.pc, .int .i64 p.base.len, (.slice Ap1 p.base.ops.length cp1), .int .i64 p.base.fin, .int .i64 p.base.x, .int .i64 p.base.y, .int .i64 p.base.k, .int .i64 p.made.pc, .int .i64 p.made.len, (.slice Ap2 p.made.ops.length cp2), .int .i64 p.made.fin, .int .i64 p.made.x, .int .i64 p.made.y, .int .i64 p.made.k] 54) ⟨_, _, rfl, hkp, hp1.ext (Ext.trans he0 (by (repeat' (first | (with_reducible exact Ext.refl _) | (with_reducible apply Ext.alloc) | (with_reducible apply Ext.drewN) | (with_reducible apply Ext.drew) | (with_reducible refine Ext.setCell ?_ ?_ _))); all_goals (first | (simp; done) | (simp; omega) | omega))), hp2.ext (Ext.trans he0 (by (repeat' (first | (with_reducible exact Ext.refl _) | (with_reducible apply Ext.alloc) | (with_reducible apply Ext.drewN) | (with_reducible apply Ext.drew) | (with_reducible refine Ext.setCell ?_ ?_ _))); all_goals (first | (simp; done) | (simp; omega) | omega)))⟩ (by repeat (first | (exact fun _ h => absurd h (List.not_mem_nil)) | (refine List.forall_mem_cons.2 ⟨rfl, ?_⟩))) (by unfold maxLen; omega) (by omega) ?_; intro v' w2 hr2 hE2 hg2; clear hA)
    have hE : Ext w w2 := Ext.trans (Ext.trans he0 (by (repeat' (first | (with_reducible exact Ext.refl _) | (with_reducible apply Ext.alloc) | (with_reducible apply Ext.drewN) | (with_reducible apply Ext.drew) | (with_reducible refine Ext.setCell ?_ ?_ _))); all_goals (first | (simp; done) | (simp; omega) | omega))) hE2
    obtain ⟨A2, c2, rfl, -, -⟩ := hr2.form
    go_wp2_with fail
    refine (lastOfCer_any (l ++ [p]) _ 3 _ hr2 (by simp) (by simp; omega) (by omega) (by omega)).mono ?_
    rintro e w' ⟨r3, rfl, hr3, rfl⟩
    go_wp2_with fail
    refine (cloneCerts_any (lastN 3 (l ++ [p])) _ _ hr3 (by have h1 := blk_lastN 3 (l ++ [p]); rw [blk_snoc] at h1; omega)).mono ?_
    rintro e w3 ⟨r4, F4, rfl, ho4, hf4, hx4⟩
    go_wp2
    go_ret
    exact ⟨_, F4, rfl, ho4, hf4.down hE, hE.trans hx4⟩
  · refine Plan.chain_step rfl (fun K hK => ?_)
    go_simp
    refine hK.out _ _ (by (repeat' (first | (with_reducible exact Ext.refl _) | (with_reducible apply Ext.alloc) | (with_reducible apply Ext.drewN) | (with_reducible apply Ext.drew) | (with_reducible refine Ext.setCell ?_ ?_ _))); all_goals (first | (simp; done) | (simp; omega) | omega)) ?_
    clear hK
    (try simp only [Act.put, List.setIfInBounds_toArray, List.set_cons_zero, List.set_cons_succ])
    refine Plan.chain_step rfl (fun K hK => ?_)
    go_simp
    refine (cloneCerts_app l _ _ (hl.ext (Ext.trans he0 (by (repeat' (first | (with_reducible exact Ext.refl _) | (with_reducible apply Ext.alloc) | (with_reducible apply Ext.drewN) | (with_reducible apply Ext.drew) | (with_reducible refine Ext.setCell ?_ ?_ _))); all_goals (first | (simp; done) | (simp; omega) | omega)))) (by omega)).mono ?_
    rintro e w1 ⟨r, Fs, xs, rfl, hA⟩
    refine hK.out _ _ (Ext.trans (by (repeat' (first | (with_reducible exact Ext.refl _) | (with_reducible apply Ext.alloc) | (with_reducible apply Ext.drewN) | (with_reducible apply Ext.drew) | (with_reducible refine Ext.setCell ?_ ?_ _))); all_goals (first | (simp; done) | (simp; omega) | omega)) hA.ext) ?_
    clear hK
    (try simp only [Act.put, List.setIfInBounds_toArray, List.set_cons_zero, List.set_cons_succ])
    have hb := hA.ext.bx (Bx.new w0.drew #[.int .i64 p.base.pc, .int .i64 p.base.len, (.slice Ap1 p.base.ops.length cp1), .int .i64 p.base.fin, .int .i64 p.base.x, .int .i64 p.base.y, .int .i64 p.base.k, .int .i64 p.made.pc, .int .i64 p.made.len, (.slice Ap2 p.made.ops.length cp2), .int .i64 p.made.fin, .int .i64 p.made.x, .int .i64 p.made.y, .int .i64 p.made.k] 54) (by simp)
    refine Plan.tail_step ?_
    simp only [List.drop_succ_cons, List.drop_zero]
    go_wp2_with (at_builtin; refine wpList_append_read (w0 := (w0.drew.alloc (Obj.cells #[.int .i64 p.base.pc, .int .i64 p.base.len, (.slice Ap1 p.base.ops.length cp1), .int .i64 p.base.fin, .int .i64 p.base.x, .int .i64 p.base.y, .int .i64 p.base.k, .int .i64 p.made.pc, .int .i64 p.made.len, (.slice Ap2 p.made.ops.length cp2), .int .i64 p.made.fin, .int .i64 p.made.x, .int .i64 p.made.y, .int .i64 p.made.k] 54))) (wr := w1) rfl _ _ 50 rfl i0 _ 144 Try.underlying50 HI.out HZ0.out HZ1.out HZ2.out rfl (by decide) hA rfl p _ _ _ rfl (Ext.refl _) hb.src ⟨_, _, rfl, hkp, hp1.ext (Ext.trans he0 (by (repeat' (first | (with_reducible exact Ext.refl _) | (with_reducible apply Ext.alloc) | (with_reducible apply Ext.drewN) | (with_reducible apply Ext.drew) | (with_reducible refine Ext.setCell ?_ ?_ _))); all_goals (first | (simp; done) | (simp; omega) | omega))), hp2.ext (Ext.trans he0 (by (repeat' (first | (with_reducible exact Ext.refl _) | (with_reducible apply Ext.alloc) | (with_reducible apply Ext.drewN) | (with_reducible apply Ext.drew) | (with_reducible refine Ext.setCell ?_ ?_ _))); all_goals (first | (simp; done) | (simp; omega) | omega)))⟩ (by repeat (first | (exact fun _ h => absurd h (List.not_mem_nil)) | (refine List.forall_mem_cons.2 ⟨rfl, ?_⟩))) (by unfold maxLen; omega) (by omega) ?_; intro v' w2 hr2 hE2 hg2; clear hA)
    have hE : Ext w w2 := Ext.trans (Ext.trans he0 (by (repeat' (first | (with_reducible exact Ext.refl _) | (with_reducible apply Ext.alloc) | (with_reducible apply Ext.drewN) | (with_reducible apply Ext.drew) | (with_reducible refine Ext.setCell ?_ ?_ _))); all_goals (first | (simp; done) | (simp; omega) | omega))) hE2
    obtain ⟨A2, c2, rfl, -, -⟩ := hr2.form
    go_wp2_with fail
    refine (lastOfCer_any (l ++ [p]) _ 3 _ hr2 (by simp) (by simp; omega) (by omega) (by omega)).mono ?_
    rintro e w' ⟨r3, rfl, hr3, rfl⟩
    go_wp2_with fail
    refine (cloneCerts_any (lastN 3 (l ++ [p])) _ _ hr3 (by have h1 := blk_lastN 3 (l ++ [p]); rw [blk_snoc] at h1; omega)).mono ?_
    rintro e w3 ⟨r4, F4, rfl, ho4, hf4, hx4⟩
    go_wp2
    go_ret
    exact ⟨_, F4, rfl, ho4, hf4.down hE, hE.trans hx4⟩

set_option maxHeartbeats 4000000 in
theorem specCerPut_any (l : List CerPair) (p : CerPair) (vl vp1 vp2 : Value) (w : World) (hl : Sl w (Old w) vl l) (hp1 : Sl w (Old w) vp1 p.base.ops) (hp2 : Sl w (Old w) vp2 p.made.ops) (hkp : p.Ok) (hn : Bulk.blk l + Bulk.blk p ≤ 4194300) :
    Calls Try.prog 36 #[vl, .agg #[.int .i64 p.base.pc, .int .i64 p.base.len, vp1, .int .i64 p.base.fin, .int .i64 p.base.x, .int .i64 p.base.y, .int .i64 p.base.k, .int .i64 p.made.pc, .int .i64 p.made.len, vp2, .int .i64 p.made.fin, .int .i64 p.made.x, .int .i64 p.made.y, .int .i64 p.made.k]] w fun e w' => ∃ r F, e = .returned r ∧ OwnSl w' r (cerPut l p) F ∧ Fr w w' F ∧ Ext w w' := by
  obtain ⟨Al, cl, rfl, hll, hml⟩ := hl.form
  obtain ⟨Ap1, cp1, rfl, hlp1, hmp1⟩ := hp1.form
  obtain ⟨Ap2, cp2, rfl, hlp2, hmp2⟩ := hp2.form
  unfold maxLen at hml
  have hbl := blk_len l
  have HP := hide (show Bulk.blk p = Bulk.blk p.base.ops + Bulk.blk p.made.ops from rfl)
  obtain ⟨i0, hi, hz0, hz1, hz2⟩ := info_parts infCerPair
  have HI := hide hi
  have HZ0 := hide hz0
  have HZ1 := hide hz1
  have HZ2 := hide hz2
  clear hi hz0 hz1 hz2
  go_enter Try.func36, Try.ntmps36
  go_wp2_with fail
  have he0 : Ext w (w.alloc (Obj.cells #[.int .i64 p.base.pc, .int .i64 p.base.len, (.slice Ap1 p.base.ops.length cp1), .int .i64 p.base.fin, .int .i64 p.base.x, .int .i64 p.base.y, .int .i64 p.base.k, .int .i64 p.made.pc, .int .i64 p.made.len, (.slice Ap2 p.made.ops.length cp2), .int .i64 p.made.fin, .int .i64 p.made.x, .int .i64 p.made.y, .int .i64 p.made.k] 54)) := (by (repeat' (first | (with_reducible exact Ext.refl _) | (with_reducible apply Ext.alloc) | (with_reducible apply Ext.drewN) | (with_reducible apply Ext.drew) | (with_reducible refine Ext.setCell ?_ ?_ _))); all_goals (first | (simp; done) | (simp; omega) | omega))
  have hs0 : w.heap.size + 1 ≤ ((w.alloc (Obj.cells #[.int .i64 p.base.pc, .int .i64 p.base.len, (.slice Ap1 p.base.ops.length cp1), .int .i64 p.base.fin, .int .i64 p.base.x, .int .i64 p.base.y, .int .i64 p.base.k, .int .i64 p.made.pc, .int .i64 p.made.len, (.slice Ap2 p.made.ops.length cp2), .int .i64 p.made.fin, .int .i64 p.made.x, .int .i64 p.made.y, .int .i64 p.made.k] 54))).heap.size := by simp
  have hq0 := hide (show ((w.alloc (Obj.cells #[.int .i64 p.base.pc, .int .i64 p.base.len, (.slice Ap1 p.base.ops.length cp1), .int .i64 p.base.fin, .int .i64 p.base.x, .int .i64 p.base.y, .int .i64 p.base.k, .int .i64 p.made.pc, .int .i64 p.made.len, (.slice Ap2 p.made.ops.length cp2), .int .i64 p.made.fin, .int .i64 p.made.x, .int .i64 p.made.y, .int .i64 p.made.k] 54))).heap.size = w.heap.size + 1 by simp)
  have hBp_0 : Bx (w.alloc (Obj.cells #[.int .i64 p.base.pc, .int .i64 p.base.len, (.slice Ap1 p.base.ops.length cp1), .int .i64 p.base.fin, .int .i64 p.base.x, .int .i64 p.base.y, .int .i64 p.base.k, .int .i64 p.made.pc, .int .i64 p.made.len, (.slice Ap2 p.made.ops.length cp2), .int .i64 p.made.fin, .int .i64 p.made.x, .int .i64 p.made.y, .int .i64 p.made.k] 54)) (w.heap.size) [.int .i64 p.base.pc, .int .i64 p.base.len, (.slice Ap1 p.base.ops.length cp1), .int .i64 p.base.fin, .int .i64 p.base.x, .int .i64 p.base.y, .int .i64 p.base.k, .int .i64 p.made.pc, .int .i64 p.made.len, (.slice Ap2 p.made.ops.length cp2), .int .i64 p.made.fin, .int .i64 p.made.x, .int .i64 p.made.y, .int .i64 p.made.k] := (by have := (Bx.new w #[.int .i64 p.base.pc, .int .i64 p.base.len, (.slice Ap1 p.base.ops.length cp1), .int .i64 p.base.fin, .int .i64 p.base.x, .int .i64 p.base.y, .int .i64 p.base.k, .int .i64 p.made.pc, .int .i64 p.made.len, (.slice Ap2 p.made.ops.length cp2), .int .i64 p.made.fin, .int .i64 p.made.x, .int .i64 p.made.y, .int .i64 p.made.k] 54); simpa using this)
  have hFp_0 : ∀ oo, ((w.alloc (Obj.cells #[.int .i64 p.base.pc, .int .i64 p.base.len, (.slice Ap1 p.base.ops.length cp1), .int .i64 p.base.fin, .int .i64 p.base.x, .int .i64 p.base.y, .int .i64 p.base.k, .int .i64 p.made.pc, .int .i64 p.made.len, (.slice Ap2 p.made.ops.length cp2), .int .i64 p.made.fin, .int .i64 p.made.x, .int .i64 p.made.y, .int .i64 p.made.k] 54))).frozen? ⟨w.heap.size, oo, none⟩ = false := fun oo => by simp
  generalize (w.alloc (Obj.cells #[.int .i64 p.base.pc, .int .i64 p.base.len, (.slice Ap1 p.base.ops.length cp1), .int .i64 p.base.fin, .int .i64 p.base.x, .int .i64 p.base.y, .int .i64 p.base.k, .int .i64 p.made.pc, .int .i64 p.made.len, (.slice Ap2 p.made.ops.length cp2), .int .i64 p.made.fin, .int .i64 p.made.x, .int .i64 p.made.y, .int .i64 p.made.k] 54)) = w0 at *
  go_wp2
  go_loopw [5, 6] (fun v i wr => ∃ (k : Nat) (Fs : List (List Nat)) (xs : List Value), k ≤ l.length ∧ i = .int .i64 k ∧ App w0 wr 54 v (l.take k) Fs xs) (fun _ i _ => l.length - (intOf i).toNat)
  case atStart => exact ⟨0, [], [], by omega, rfl, App.emptyAt w0 54 _ hq0.out.symm⟩
  case round =>
    obtain ⟨k, Fs, xs, hk, rfl, hA⟩ := hrel
    by_cases hlt : k < l.length
    · obtain ⟨b, off, v1, v2, rfl, hbo, hk0, hv1, hv2, e0, e1, e2, e3, e4, e5, e6, e7, e8, e9, e10, e11, e12, e13⟩ := at_CerPair (hl.ext (he0.trans hA.ext)) hlt
      have z0 : (0 : Int) ≤ (k : Int) := by omega
      have z1 : (k : Int) < (l.length : Int) := by omega
      have hbk := blk_el l k hlt
      have HB := hide (show Bulk.blk l[k] = Bulk.blk l[k].base.ops + Bulk.blk l[k].made.ops from rfl)
      obtain ⟨Av1, cv1, rfl, -, -⟩ := hv1.form
      obtain ⟨Av2, cv2, rfl, -, -⟩ := hv2.form
      go_wp2_with fail
      refine (l12Pair_any l[k] _ _ _ (hv1.ext (by (repeat' (first | (with_reducible exact Ext.refl _) | (with_reducible apply Ext.alloc) | (with_reducible apply Ext.drewN) | (with_reducible apply Ext.drew) | (with_reducible refine Ext.setCell ?_ ?_ _))); all_goals (first | (simp; done) | (simp; omega) | omega))) (hv2.ext (by (repeat' (first | (with_reducible exact Ext.refl _) | (with_reducible apply Ext.alloc) | (with_reducible apply Ext.drewN) | (with_reducible apply Ext.drew) | (with_reducible refine Ext.setCell ?_ ?_ _))); all_goals (first | (simp; done) | (simp; omega) | omega))) (by have := HB.out; have := blk_len l[k].base.ops; omega) (by have := HB.out; have := blk_len l[k].made.ops; omega)).mono ?_
      rintro e w1 ⟨r1, r2, F1, F2, rfl, ho1, ho2, hf, hx⟩
      have hx1 : Ext wr w1 := Ext.trans (by (repeat' (first | (with_reducible exact Ext.refl _) | (with_reducible apply Ext.alloc) | (with_reducible apply Ext.drewN) | (with_reducible apply Ext.drew) | (with_reducible refine Ext.setCell ?_ ?_ _))); all_goals (first | (simp; done) | (simp; omega) | omega)) hx
      have hf1 : Fr wr w1 (F1 ++ F2) := hf.mk1 (by simp) (Nat.le_refl _)
      clear hf hx
      obtain ⟨B1, d1, rfl, -, -⟩ := ho1.sl.form
      obtain ⟨B2, d2, rfl, -, -⟩ := ho2.sl.form
      go_wp2_with (at_builtin; refine wpList_append_push (w0 := w0) (wr := wr) rfl _ _ 50 rfl i0 _ 144 Try.underlying50 HI.out HZ0.out HZ1.out HZ2.out rfl (by decide) hA rfl l[k] _ _ (F1 ++ F2) _ rfl hx1 ⟨_, _, F1, F2, rfl, hk0, ho1, ho2, rfl⟩ hf1 (by repeat (first | (exact fun _ h => absurd h (List.not_mem_nil)) | (refine List.forall_mem_cons.2 ⟨rfl, ?_⟩))) (by unfold maxLen; first | omega | (simp [List.length_take]; omega)) (by first | omega | (simp [List.length_take]; omega)) ?_; intro v' w9 xs' hA9 hg9; clear hA)
      have HT := hide (List.take_succ_eq_append_getElem hlt)
      go_roundw
      case rel => exact ⟨k + 1, _, _, by omega, by go_num, by rw [HT.out]; exact hA9⟩
      case measure => simp [intOf]; omega
    · obtain rfl : k = l.length := by omega
      rw [List.take_length] at hA
      have hB := hA.ext.bx hBp_0 (by omega)
      have hsz := hA.ext.size
      have xp0 : wr.cell? ⟨w.heap.size, 0, none⟩ = some (.int .i64 p.base.pc) := hB 0 _ rfl
      have xp1 : wr.cell? ⟨w.heap.size, 1, none⟩ = some (.int .i64 p.base.len) := hB 1 _ rfl
      have xp2 : wr.cell? ⟨w.heap.size, 2, none⟩ = some ((.slice Ap1 p.base.ops.length cp1)) := hB 2 _ rfl
      have xp3 : wr.cell? ⟨w.heap.size, 3, none⟩ = some (.int .i64 p.base.fin) := hB 3 _ rfl
      have xp4 : wr.cell? ⟨w.heap.size, 4, none⟩ = some (.int .i64 p.base.x) := hB 4 _ rfl
      have xp5 : wr.cell? ⟨w.heap.size, 5, none⟩ = some (.int .i64 p.base.y) := hB 5 _ rfl
      have xp6 : wr.cell? ⟨w.heap.size, 6, none⟩ = some (.int .i64 p.base.k) := hB 6 _ rfl
      have xp7 : wr.cell? ⟨w.heap.size, 7, none⟩ = some (.int .i64 p.made.pc) := hB 7 _ rfl
      have xp8 : wr.cell? ⟨w.heap.size, 8, none⟩ = some (.int .i64 p.made.len) := hB 8 _ rfl
      have xp9 : wr.cell? ⟨w.heap.size, 9, none⟩ = some ((.slice Ap2 p.made.ops.length cp2)) := hB 9 _ rfl
      have xp10 : wr.cell? ⟨w.heap.size, 10, none⟩ = some (.int .i64 p.made.fin) := hB 10 _ rfl
      have xp11 : wr.cell? ⟨w.heap.size, 11, none⟩ = some (.int .i64 p.made.x) := hB 11 _ rfl
      have xp12 : wr.cell? ⟨w.heap.size, 12, none⟩ = some (.int .i64 p.made.y) := hB 12 _ rfl
      have xp13 : wr.cell? ⟨w.heap.size, 13, none⟩ = some (.int .i64 p.made.k) := hB 13 _ rfl
      have hE0 : Ext w wr := he0.trans hA.ext
      go_wp2_with fail
      refine (l12Pair_any p _ _ _ (hp1.ext hE0) (hp2.ext hE0) (by have := HP.out; have := blk_len p.base.ops; omega) (by have := HP.out; have := blk_len p.made.ops; omega)).mono ?_
      rintro e w1 ⟨r1, r2, F1, F2, rfl, ho1, ho2, hf, hx⟩
      have hx1 : Ext wr w1 := hx
      have hf1 : Fr wr w1 (F1 ++ F2) := hf
      have hk0 := hkp
      clear hf hx
      obtain ⟨B1, d1, rfl, -, -⟩ := ho1.sl.form
      obtain ⟨B2, d2, rfl, -, -⟩ := ho2.sl.form
      by_cases hq : 3 < l.length + 1
      · go_wp2_with (at_builtin; refine wpList_append_push (w0 := w0) (wr := wr) rfl _ _ 50 rfl i0 _ 144 Try.underlying50 HI.out HZ0.out HZ1.out HZ2.out rfl (by decide) hA rfl p _ _ (F1 ++ F2) _ rfl hx1 ⟨_, _, F1, F2, rfl, hk0, ho1, ho2, rfl⟩ hf1 (by repeat (first | (exact fun _ h => absurd h (List.not_mem_nil)) | (refine List.forall_mem_cons.2 ⟨rfl, ?_⟩))) (by unfold maxLen; first | omega | (simp [List.length_take]; omega)) (by first | omega | (simp [List.length_take]; omega)) ?_; intro v' w9 xs' hA9 hg9; clear hA; go_must (obtain ⟨F9, hO9, hF9⟩ := hA9.done); go_must (obtain ⟨A9, c9, rfl, hl9, hm9⟩ := hO9.sl.form); go_must (obtain ⟨b9, off9, F8, rfl, hO8, hF8⟩ := OwnSl.drop hO9 hF9 (k := (l ++ [p]).length - 3) (by simp; omega)); have hE9 := hA9.ext; go_must (have HC := hide (show cerPut l p = (l ++ [p]).drop ((l ++ [p]).length - 3) from rfl)); go_must (unfold maxLen at hm9); go_must (simp only [List.length_append, List.length_cons, List.length_nil, Nat.zero_add] at hO8 HC hl9); go_must (have z0 : (0 : Int) ≤ ((l.length : Int) + 1 - 3) := by omega); go_must (have z4 : l.length + 1 - 3 < c9 := by omega); go_must (have z5 : ¬ c9 = l.length + 1 - 3 := by omega); go_must (clear hA9 hO9))
        go_ret
        exact ⟨_, F8, rfl, by rw [HC.out]; exact hO8, hF8.down he0, he0.trans hE9⟩
      · go_wp2_with (at_builtin; refine wpList_append_push (w0 := w0) (wr := wr) rfl _ _ 50 rfl i0 _ 144 Try.underlying50 HI.out HZ0.out HZ1.out HZ2.out rfl (by decide) hA rfl p _ _ (F1 ++ F2) _ rfl hx1 ⟨_, _, F1, F2, rfl, hk0, ho1, ho2, rfl⟩ hf1 (by repeat (first | (exact fun _ h => absurd h (List.not_mem_nil)) | (refine List.forall_mem_cons.2 ⟨rfl, ?_⟩))) (by unfold maxLen; first | omega | (simp [List.length_take]; omega)) (by first | omega | (simp [List.length_take]; omega)) ?_; intro v' w9 xs' hA9 hg9; clear hA; obtain ⟨F9, hO9, hF9⟩ := hA9.done; obtain ⟨A9, c9, rfl, hl9, hm9⟩ := hO9.sl.form; have hE9 := hA9.ext; have HC := hide (show cerPut l p = l ++ [p] by unfold cerPut lastN; rw [Nat.sub_eq_zero_of_le (by simp; omega)]; rfl); simp only [List.length_append, List.length_cons, List.length_nil, Nat.zero_add] at hO9; clear hA9)
        go_ret
        exact ⟨_, F9, rfl, by rw [HC.out]; exact hO9, hF9.down he0, he0.trans hE9⟩

end Go.Proofs.Ytjemadbhpbbhlaa
