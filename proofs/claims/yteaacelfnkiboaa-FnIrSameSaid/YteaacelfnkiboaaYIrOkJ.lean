/-
  IrOkJ
-/
import Derived.Test.YteaacelfnkiboaaYWords
import Derived.Test.YteaacelfnkiboaaYMapLib
import Derived.Test.YteaacelfnkiboaaYSeqLib
namespace Go.Proofs.Yteaacelfnkiboaa
open Go.RowKit

set_option linter.unusedVariables false
set_option linter.unusedSimpArgs false
set_option maxRecDepth 100000

set_option maxHeartbeats 32000000 in
theorem opOkIn_any (b : IrBlock) (n : Nat) (o : IrOp) (c : Int) (v : Value) (w : World) (h : Sl w (Old w) v b.ops) (hn : n < b.ops.length) (ho : b.ops[n] = o) (hkd : o.kind = c) (hc1 : 1 ≤ c) (hc2 : c ≤ 8) (hz1 : 1 ≤ b.len) (hz2 : b.len ≤ 8) :
    Calls Try.prog 49 #[.agg #[.int .i64 b.pc, .int .i64 b.len, v, .int .i64 b.fin, .int .i64 b.x, .int .i64 b.y, .int .i64 b.k], .int .i64 (n : Int)] w fun e w' => e = .returned (.bool (opOkB b.ops o n b.len)) ∧ Ext w w' := by
  obtain ⟨Ab1, cb1, rfl, hl, hm⟩ := h.form
  unfold maxLen at hm
  have HE := hide (opOk_parts b.ops o n b.len c hkd hc1 hc2)
  obtain ⟨bb, off, rfl, hbo, hk0, e0, e1, e2, e3, e4⟩ := at_IrOp h hn
  have hbl : bb < w.heap.size := hbo
  have z0 : (0 : Int) ≤ (n : Int) := by omega
  have z1 : (n : Int) < (b.ops.length : Int) := by omega
  rw [ho] at e0 e1 e2 e3 e4
  rw [hkd] at e0
  have HK := hide hkd
  clear hkd ho hk0
  have I18 : inB c 1 8 = true := inB_yes hc1 hc2
  go_enter Try.func49, Try.ntmps49
  go_wp2_with fail
  have he0 : Ext w (w.alloc (Obj.cells #[.int .i64 b.pc, .int .i64 b.len, (.slice (some ⟨bb, off, none⟩) b.ops.length cb1), .int .i64 b.fin, .int .i64 b.x, .int .i64 b.y, .int .i64 b.k] 25)) := (Ext.auto)
  have hs0 : w.heap.size + 1 ≤ ((w.alloc (Obj.cells #[.int .i64 b.pc, .int .i64 b.len, (.slice (some ⟨bb, off, none⟩) b.ops.length cb1), .int .i64 b.fin, .int .i64 b.x, .int .i64 b.y, .int .i64 b.k] 25))).heap.size := by simp
  have hq0 := hide (show ((w.alloc (Obj.cells #[.int .i64 b.pc, .int .i64 b.len, (.slice (some ⟨bb, off, none⟩) b.ops.length cb1), .int .i64 b.fin, .int .i64 b.x, .int .i64 b.y, .int .i64 b.k] 25))).heap.size = w.heap.size + 1 by simp)
  have hBb_0 : Bx (w.alloc (Obj.cells #[.int .i64 b.pc, .int .i64 b.len, (.slice (some ⟨bb, off, none⟩) b.ops.length cb1), .int .i64 b.fin, .int .i64 b.x, .int .i64 b.y, .int .i64 b.k] 25)) (w.heap.size) [.int .i64 b.pc, .int .i64 b.len, (.slice (some ⟨bb, off, none⟩) b.ops.length cb1), .int .i64 b.fin, .int .i64 b.x, .int .i64 b.y, .int .i64 b.k] := (by have := (Bx.new w #[.int .i64 b.pc, .int .i64 b.len, (.slice (some ⟨bb, off, none⟩) b.ops.length cb1), .int .i64 b.fin, .int .i64 b.x, .int .i64 b.y, .int .i64 b.k] 25); simpa using this)
  have hFb_0 : ∀ oo, ((w.alloc (Obj.cells #[.int .i64 b.pc, .int .i64 b.len, (.slice (some ⟨bb, off, none⟩) b.ops.length cb1), .int .i64 b.fin, .int .i64 b.x, .int .i64 b.y, .int .i64 b.k] 25))).frozen? ⟨w.heap.size, oo, none⟩ = false := fun oo => by simp
  generalize (w.alloc (Obj.cells #[.int .i64 b.pc, .int .i64 b.len, (.slice (some ⟨bb, off, none⟩) b.ops.length cb1), .int .i64 b.fin, .int .i64 b.x, .int .i64 b.y, .int .i64 b.k] 25)) = w0 at *
  have hx1 : Ext w0 (w0.alloc (Obj.cells #[.int .i64 c, .int .i64 o.x, .int .i64 o.y, .int .i64 o.k, .int .i64 o.at_] 58)) := (Ext.auto)
  have hs1 : w0.heap.size + 1 ≤ ((w0.alloc (Obj.cells #[.int .i64 c, .int .i64 o.x, .int .i64 o.y, .int .i64 o.k, .int .i64 o.at_] 58))).heap.size := by simp
  have he1 : Ext w (w0.alloc (Obj.cells #[.int .i64 c, .int .i64 o.x, .int .i64 o.y, .int .i64 o.k, .int .i64 o.at_] 58)) := he0.trans hx1
  have hBb_1 : Bx (w0.alloc (Obj.cells #[.int .i64 c, .int .i64 o.x, .int .i64 o.y, .int .i64 o.k, .int .i64 o.at_] 58)) (w.heap.size) [.int .i64 b.pc, .int .i64 b.len, (.slice (some ⟨bb, off, none⟩) b.ops.length cb1), .int .i64 b.fin, .int .i64 b.x, .int .i64 b.y, .int .i64 b.k] := hx1.bx hBb_0 (by omega)
  have hFb_1 : ∀ oo, ((w0.alloc (Obj.cells #[.int .i64 c, .int .i64 o.x, .int .i64 o.y, .int .i64 o.k, .int .i64 o.at_] 58))).frozen? ⟨w.heap.size, oo, none⟩ = false := fun oo => (hx1.frozen (by omega)).trans (hFb_0 oo)
  have hBo_1 : Bx (w0.alloc (Obj.cells #[.int .i64 c, .int .i64 o.x, .int .i64 o.y, .int .i64 o.k, .int .i64 o.at_] 58)) (w.heap.size + 1) [.int .i64 c, .int .i64 o.x, .int .i64 o.y, .int .i64 o.k, .int .i64 o.at_] := by have := (by have := (Bx.new w0 #[.int .i64 c, .int .i64 o.x, .int .i64 o.y, .int .i64 o.k, .int .i64 o.at_] 58); simpa using this); rw [hq0.out] at this; exact this
  have hFo_1 : ∀ oo, ((w0.alloc (Obj.cells #[.int .i64 c, .int .i64 o.x, .int .i64 o.y, .int .i64 o.k, .int .i64 o.at_] 58))).frozen? ⟨w.heap.size + 1, oo, none⟩ = false := fun oo => by rw [← hq0.out]; simp
  generalize (w0.alloc (Obj.cells #[.int .i64 c, .int .i64 o.x, .int .i64 o.y, .int .i64 o.k, .int .i64 o.at_] 58)) = w1 at *
  clear hBb_0 hFb_0
  refine (in_any _ _ _ _).mono ?_
  rintro e w' ⟨rfl, rfl⟩
  have yo : w.heap.size + 1 < w1.heap.size := by omega
  have xo0 := hBo_1 0 _ rfl
  have xo1 := hBo_1 1 _ rfl
  have xo2 := hBo_1 2 _ rfl
  have xo3 := hBo_1 3 _ rfl
  have xo4 := hBo_1 4 _ rfl
  go_wp2_with fail
  clear xo0 xo1 xo2 xo3 xo4 yo
  refine (has_any _ _ _ _ _ _ (by omega) (by omega)).mono ?_
  rintro e w2 ⟨rfl, hy⟩
  have hx2 : Ext w1 w2 := Ext.trans (Ext.auto) hy
  have hs2 := hx2.size
  have he2 : Ext w w2 := he1.trans hx2
  have hBb_2 : Bx w2 (w.heap.size) [.int .i64 b.pc, .int .i64 b.len, (.slice (some ⟨bb, off, none⟩) b.ops.length cb1), .int .i64 b.fin, .int .i64 b.x, .int .i64 b.y, .int .i64 b.k] := hx2.bx hBb_1 (by omega)
  have hFb_2 : ∀ oo, w2.frozen? ⟨w.heap.size, oo, none⟩ = false := fun oo => (hx2.frozen (by omega)).trans (hFb_1 oo)
  have hBo_2 : Bx w2 (w.heap.size + 1) [.int .i64 c, .int .i64 o.x, .int .i64 o.y, .int .i64 o.k, .int .i64 o.at_] := hx2.bx hBo_1 (by omega)
  have hFo_2 : ∀ oo, w2.frozen? ⟨w.heap.size + 1, oo, none⟩ = false := fun oo => (hx2.frozen (by omega)).trans (hFo_1 oo)
  clear hBb_1 hFb_1 hBo_1 hFo_1
  clear hy
  go_upto_region 5 with fail
  go_cut [10] (fun s10 wx => s10 = .bool (kfB c o.k) ∧ Ext w2 wx)
  case first =>
    have yo : w.heap.size + 1 < w2.heap.size := by omega
    have xo0 := hBo_2 0 _ rfl
    have xo1 := hBo_2 1 _ rfl
    have xo2 := hBo_2 2 _ rfl
    have xo3 := hBo_2 3 _ rfl
    have xo4 := hBo_2 4 _ rfl
    have hS : ∀ w', Ext w2 w' → ∀ bb oo, bb < w2.heap.size → w'.cell? ⟨bb, oo, none⟩ = w2.cell? ⟨bb, oo, none⟩ := fun w' hx bb oo hb => hx.cell hb
    refine wp_region_plan2 (fun w' => Ext w2 w') 20 (.float 1 (.float 2 (.float 3 (.float 5 (.float 6 (.float 7 (.float 9 (.float 10 (.float 11 (.float 13 (.float 14 (.float 15 (.float 18 (.float 19 (.chain 0 (altsOf (.float 17 (.tail 20)) 4 [4, 8, 12, 16])))))))))))))))) (by kernel_rfl) (by kernel_rfl) (Ext.refl _).drew ?_
    (refine Plan2.float_step (v := ?_) rfl (by rfl) (fun _ _ _ h => h) (fun w' hSw => ?_) ?_; rotate_left; · (go_simp; try with_reducible rfl)); (try simp only [Act.put, List.setIfInBounds_toArray, List.set_cons_zero, List.set_cons_succ])
    (refine Plan2.float_step (v := ?_) rfl (by rfl) (fun _ _ _ h => h) (fun w' hSw => ?_) ?_; rotate_left; · (go_simp; try with_reducible rfl)); (try simp only [Act.put, List.setIfInBounds_toArray, List.set_cons_zero, List.set_cons_succ])
    (refine Plan2.call_step rfl (by rfl) (fun _ _ _ h => h) (fun w' => by go_simp; try rfl) (fun w' hSw => implWrdOk_any _ _) ?_); (try simp only [Act.put, List.setIfInBounds_toArray, List.set_cons_zero, List.set_cons_succ])
    (refine Plan2.float_step (v := ?_) rfl (by rfl) (fun _ _ _ h => h) (fun w' hSw => ?_) ?_; rotate_left; · (go_simp; try with_reducible rfl)); (try simp only [Act.put, List.setIfInBounds_toArray, List.set_cons_zero, List.set_cons_succ])
    (refine Plan2.float_step (v := ?_) rfl (by rfl) (fun _ _ _ h => h) (fun w' hSw => ?_) ?_; rotate_left; · (go_simp; try with_reducible rfl)); (try simp only [Act.put, List.setIfInBounds_toArray, List.set_cons_zero, List.set_cons_succ])
    (refine Plan2.call_step rfl (by rfl) (fun _ _ _ h => h) (fun w' => by go_simp; try rfl) (fun w' hSw => isReg_any _ _) ?_); (try simp only [Act.put, List.setIfInBounds_toArray, List.set_cons_zero, List.set_cons_succ])
    (refine Plan2.float_step (v := ?_) rfl (by rfl) (fun _ _ _ h => h) (fun w' hSw => ?_) ?_; rotate_left; · (go_simp; try with_reducible rfl)); (try simp only [Act.put, List.setIfInBounds_toArray, List.set_cons_zero, List.set_cons_succ])
    (refine Plan2.float_step (v := ?_) rfl (by rfl) (fun _ _ _ h => h) (fun w' hSw => ?_) ?_; rotate_left; · (go_simp; try with_reducible rfl)); (try simp only [Act.put, List.setIfInBounds_toArray, List.set_cons_zero, List.set_cons_succ])
    (refine Plan2.call_step rfl (by rfl) (fun _ _ _ h => h) (fun w' => by go_simp; try rfl) (fun w' hSw => isOp_any _ _) ?_); (try simp only [Act.put, List.setIfInBounds_toArray, List.set_cons_zero, List.set_cons_succ])
    (refine Plan2.float_step (v := ?_) rfl (by rfl) (fun _ _ _ h => h) (fun w' hSw => ?_) ?_; rotate_left; · (go_simp; try with_reducible rfl)); (try simp only [Act.put, List.setIfInBounds_toArray, List.set_cons_zero, List.set_cons_succ])
    (refine Plan2.float_step (v := ?_) rfl (by rfl) (fun _ _ _ h => h) (fun w' hSw => ?_) ?_; rotate_left; · (go_simp; try with_reducible rfl)); (try simp only [Act.put, List.setIfInBounds_toArray, List.set_cons_zero, List.set_cons_succ])
    (refine Plan2.call_step rfl (by rfl) (fun _ _ _ h => h) (fun w' => by go_simp; try rfl) (fun w' hSw => isReg_any _ _) ?_); (try simp only [Act.put, List.setIfInBounds_toArray, List.set_cons_zero, List.set_cons_succ])
    (refine Plan2.float_step (v := ?_) rfl (by rfl) (fun _ _ _ h => h) (fun w' hSw => ?_) ?_; rotate_left; · (go_simp; try with_reducible rfl)); (try simp only [Act.put, List.setIfInBounds_toArray, List.set_cons_zero, List.set_cons_succ])
    (refine Plan2.float_step (v := ?_) rfl (by rfl) (fun _ _ _ h => h) (fun w' hSw => ?_) ?_; rotate_left; · (go_simp; try with_reducible rfl)); (try simp only [Act.put, List.setIfInBounds_toArray, List.set_cons_zero, List.set_cons_succ])
    have hmm := @run_makeMap Try.prog
    refine Plan2.chain_step rfl (fun K hK => ?_)
    go_simp
    refine hK.out _ _ (Ext.auto) ?_
    clear hK hmm
    (try simp only [Act.put, List.setIfInBounds_toArray, List.set_cons_zero, List.set_cons_succ])
    have hR : InsRel w2 w2.heap.size (fun j => kfB j o.k) kfKey [4, 8, 12, 16] [4, 8, 12, 16] (w2.alloc (.map #[] 0)).drew := InsRel.start (by simp) (MapIs.new w2) (Ext.auto)
    generalize (w2.alloc (.map #[] 0)).drew = w3 at hR ⊢
    clear xo0 xo1 xo2 xo3 xo4 yo
    clear hS
    have hz : ∀ w : World, (zeroValue 4).run Try.prog w = .ok (.bool false) w := fun w => by kernel_rfl
    have HZ := hide hz
    clear hz
    refine altsOf_wp _ (fun J i w9 hi hJ K9 hK9 => ?_) (fun J w9 hJ => hJ.2.2.choose_spec.2.1) (fun w9 hJ => ?_) 4 _ w3 (by simp) hR
    · have hi0 := hJ.2.1 i hi
      simp only [List.mem_cons, List.not_mem_nil, or_false] at hi0
      rcases hi0 with rfl | rfl | rfl | rfl
      all_goals
        refine wpOp_step (o := _) rfl (fun K' hK => ?_)
        rw [if_pos (by rfl)]
        refine wp_insR _ _ _ rfl rfl Try.underlying101 Try.underlying3 (Nat.le_refl _) hJ hi kfKey_inj rfl rfl (by rfl) (fun w8 h8 => hK _ _ (hK9 w8 h8))
    · obtain ⟨L, hM, hE, h1, h2⟩ := hJ.out
      (refine Plan2.float_step (v := ?_) rfl (by rfl) (fun _ _ _ h => h) (fun w' hSw => ?_) ?_; rotate_left; · (go_simp; try with_reducible rfl)); (try simp only [Act.put, List.setIfInBounds_toArray, List.set_cons_zero, List.set_cons_succ])
      refine Plan2.tail_step ?_
      simp only [List.drop_succ_cons, List.drop_zero]
      refine wpList_lookup_in rfl _ _ rfl Try.underlying101 Try.underlying3 HZ.out hM c (kfB c o.k) rfl rfl (kf_look c o.k L h1 (fun j hj => by
        simp only [List.mem_cons, List.not_mem_nil, or_false] at hj
        rcases hj with rfl | rfl | rfl | rfl
        · exact h2 4 (by simp)
        · exact h2 8 (by simp)
        · exact h2 12 (by simp)
        · exact h2 16 (by simp))) ?_
      go_wp2_with fail
      go_meet
      exact ⟨rfl, hE⟩
  case rest =>
    obtain ⟨rfl, hy⟩ := hcut
    have w3 := wc
    obtain ⟨w3, hw3⟩ : ∃ w3 : World, w3 = wc := ⟨_, rfl⟩
    subst hw3
    have hx3 : Ext w2 w3 := Ext.trans (Ext.auto) hy
    have hs3 := hx3.size
    have he3 : Ext w w3 := he2.trans hx3
    have hBb_3 : Bx w3 (w.heap.size) [.int .i64 b.pc, .int .i64 b.len, (.slice (some ⟨bb, off, none⟩) b.ops.length cb1), .int .i64 b.fin, .int .i64 b.x, .int .i64 b.y, .int .i64 b.k] := hx3.bx hBb_2 (by omega)
    have hFb_3 : ∀ oo, w3.frozen? ⟨w.heap.size, oo, none⟩ = false := fun oo => (hx3.frozen (by omega)).trans (hFb_2 oo)
    have hBo_3 : Bx w3 (w.heap.size + 1) [.int .i64 c, .int .i64 o.x, .int .i64 o.y, .int .i64 o.k, .int .i64 o.at_] := hx3.bx hBo_2 (by omega)
    have hFo_3 : ∀ oo, w3.frozen? ⟨w.heap.size + 1, oo, none⟩ = false := fun oo => (hx3.frozen (by omega)).trans (hFo_2 oo)
    clear hBb_2 hFb_2 hBo_2 hFo_2
    clear hy
    clear I18
    generalize hgx : hasX c = bx
    generalize hgy : hasY c = by_
    generalize hgk : hasK c = bk
    generalize hga : hasAt c = ba
    generalize hgf : kfB c o.k = kf
    have HE0 := hide (HE.out.trans (by rw [hgx, hgy, hgk, hga, hgf]))
    clear hgx hgy hgk hga hgf
    go_upto_region 6 with fail
    go_step
    simp only [List.append]
    refine wpList_cutAt 18 (fun a w8 a' w' => ∃ u44 u45 u46 u47 u48 u49 u50 u51 u52 u53 u54 u55 u56 u57 u58 u59 u60, ∃ px : Bool, a' = ⟨#[.agg #[.int .i64 b.pc, .int .i64 b.len, (.slice (some ⟨bb, off, none⟩) b.ops.length cb1), .int .i64 b.fin, .int .i64 b.x, .int .i64 b.y, .int .i64 b.k], .int .i64 (n : Int), .pointer (some ⟨w.heap.size, 0, none⟩), undef, .bool false, .pointer (some ⟨w.heap.size + 1, 0, none⟩), .bool bx, .bool by_, .bool bk, .bool ba, .bool kf, u11, u12, u13, u14, u15, u16, u17, u18, u19, u20, u21, u22, u23, u24, u25, u26, u27, u28, u29, u30, u31, u32, u33, u34, u35, u36, u37, u38, u39, u40, u41, u42, u43, u44, u45, u46, u47, u48, u49, u50, u51, u52, u53, u54, u55, u56, u57, u58, u59, u60, .bool px, u62, u63, u64, u65, u66, u67, u68, u69, u70, u71, u72, u73, u74, u75, u76, u77, u78, u79, u80, u81, u82, u83, u84, u85, u86, u87, u88, u89, u90, u91, u92, u93, u94, u95, u96, u97, u98, u99, u100, u101, u102, u103, u104, u105, u106, u107, u108, u109, u110, u111, u112, u113, u114], []⟩ ∧ px = (if bx = true then valB b.ops o.x n else (o.x == 0)) ∧ Ext w8 w') (fun J K9 hJ hK9 => ?_) (fun a9 w9 hR => ?_)
    · simp only [List.take_succ_cons, List.take_zero]
      cases bx
      · 
        by_cases f0 : o.x = 0
        · 
          have f0b : (o.x == 0) = true := by simp [f0]
          have yb : w.heap.size < w3.heap.size := by omega
          have xb0 := hBb_3 0 _ rfl
          have xb1 := hBb_3 1 _ rfl
          have xb2 := hBb_3 2 _ rfl
          have xb3 := hBb_3 3 _ rfl
          have xb4 := hBb_3 4 _ rfl
          have xb5 := hBb_3 5 _ rfl
          have xb6 := hBb_3 6 _ rfl
          have yo : w.heap.size + 1 < w3.heap.size := by omega
          have xo0 := hBo_3 0 _ rfl
          have xo1 := hBo_3 1 _ rfl
          have xo2 := hBo_3 2 _ rfl
          have xo3 := hBo_3 3 _ rfl
          have xo4 := hBo_3 4 _ rfl
          go_wp2_with fail
          refine Met.intro (hJ _ _ ?_)
          iterate 18 apply Exists.intro
          refine ⟨?_, ?_, (Ext.auto)⟩
          · rfl
          · simp [f0b]
        · 
          have f0b : (o.x == 0) = false := by simp [f0]
          have yb : w.heap.size < w3.heap.size := by omega
          have xb0 := hBb_3 0 _ rfl
          have xb1 := hBb_3 1 _ rfl
          have xb2 := hBb_3 2 _ rfl
          have xb3 := hBb_3 3 _ rfl
          have xb4 := hBb_3 4 _ rfl
          have xb5 := hBb_3 5 _ rfl
          have xb6 := hBb_3 6 _ rfl
          have yo : w.heap.size + 1 < w3.heap.size := by omega
          have xo0 := hBo_3 0 _ rfl
          have xo1 := hBo_3 1 _ rfl
          have xo2 := hBo_3 2 _ rfl
          have xo3 := hBo_3 3 _ rfl
          have xo4 := hBo_3 4 _ rfl
          go_wp2_with fail
          refine Met.intro (hJ _ _ ?_)
          iterate 18 apply Exists.intro
          refine ⟨?_, ?_, (Ext.auto)⟩
          · rfl
          · simp [f0b]
      · 
        have yb : w.heap.size < w3.heap.size := by omega
        have xb0 := hBb_3 0 _ rfl
        have xb1 := hBb_3 1 _ rfl
        have xb2 := hBb_3 2 _ rfl
        have xb3 := hBb_3 3 _ rfl
        have xb4 := hBb_3 4 _ rfl
        have xb5 := hBb_3 5 _ rfl
        have xb6 := hBb_3 6 _ rfl
        have yo : w.heap.size + 1 < w3.heap.size := by omega
        have xo0 := hBo_3 0 _ rfl
        have xo1 := hBo_3 1 _ rfl
        have xo2 := hBo_3 2 _ rfl
        have xo3 := hBo_3 3 _ rfl
        have xo4 := hBo_3 4 _ rfl
        go_wp2_with fail
        clear xb0 xb1 xb2 xb3 xb4 xb5 xb6 yb
        clear xo0 xo1 xo2 xo3 xo4 yo
        refine (value_any b o.x n _ _ (h.ext he3) (by omega) (by omega)).mono ?_
        rintro e w4 ⟨rfl, hy⟩
        have hx4 : Ext w3 w4 := Ext.trans (Ext.auto) hy
        have hs4 := hx4.size
        have he4 : Ext w w4 := he3.trans hx4
        have hBb_4 : Bx w4 (w.heap.size) [.int .i64 b.pc, .int .i64 b.len, (.slice (some ⟨bb, off, none⟩) b.ops.length cb1), .int .i64 b.fin, .int .i64 b.x, .int .i64 b.y, .int .i64 b.k] := hx4.bx hBb_3 (by omega)
        have hFb_4 : ∀ oo, w4.frozen? ⟨w.heap.size, oo, none⟩ = false := fun oo => (hx4.frozen (by omega)).trans (hFb_3 oo)
        have hBo_4 : Bx w4 (w.heap.size + 1) [.int .i64 c, .int .i64 o.x, .int .i64 o.y, .int .i64 o.k, .int .i64 o.at_] := hx4.bx hBo_3 (by omega)
        have hFo_4 : ∀ oo, w4.frozen? ⟨w.heap.size + 1, oo, none⟩ = false := fun oo => (hx4.frozen (by omega)).trans (hFo_3 oo)
        clear hBb_3 hFb_3 hBo_3 hFo_3
        clear hy
        cases hv : valB b.ops o.x n
        · 
          have yb : w.heap.size < w4.heap.size := by omega
          have xb0 := hBb_4 0 _ rfl
          have xb1 := hBb_4 1 _ rfl
          have xb2 := hBb_4 2 _ rfl
          have xb3 := hBb_4 3 _ rfl
          have xb4 := hBb_4 4 _ rfl
          have xb5 := hBb_4 5 _ rfl
          have xb6 := hBb_4 6 _ rfl
          have yo : w.heap.size + 1 < w4.heap.size := by omega
          have xo0 := hBo_4 0 _ rfl
          have xo1 := hBo_4 1 _ rfl
          have xo2 := hBo_4 2 _ rfl
          have xo3 := hBo_4 3 _ rfl
          have xo4 := hBo_4 4 _ rfl
          go_wp2_with fail
          refine Met.intro (hJ _ _ ?_)
          iterate 18 apply Exists.intro
          refine ⟨?_, ?_, hx4⟩
          · rfl
          · simp [hv]
        · 
          have yb : w.heap.size < w4.heap.size := by omega
          have xb0 := hBb_4 0 _ rfl
          have xb1 := hBb_4 1 _ rfl
          have xb2 := hBb_4 2 _ rfl
          have xb3 := hBb_4 3 _ rfl
          have xb4 := hBb_4 4 _ rfl
          have xb5 := hBb_4 5 _ rfl
          have xb6 := hBb_4 6 _ rfl
          have yo : w.heap.size + 1 < w4.heap.size := by omega
          have xo0 := hBo_4 0 _ rfl
          have xo1 := hBo_4 1 _ rfl
          have xo2 := hBo_4 2 _ rfl
          have xo3 := hBo_4 3 _ rfl
          have xo4 := hBo_4 4 _ rfl
          go_wp2_with fail
          refine Met.intro (hJ _ _ ?_)
          iterate 18 apply Exists.intro
          refine ⟨?_, ?_, hx4⟩
          · rfl
          · simp [hv]
    obtain ⟨u44, u45, u46, u47, u48, u49, u50, u51, u52, u53, u54, u55, u56, u57, u58, u59, u60, px, rfl, hpr, hy⟩ := hR
    obtain ⟨w4, hw9⟩ : ∃ w4 : World, w4 = w9 := ⟨_, rfl⟩
    subst hw9
    have hx4 : Ext w3 w4 := Ext.trans (Ext.auto) hy
    have hs4 := hx4.size
    have he4 : Ext w w4 := he3.trans hx4
    have hBb_4 : Bx w4 (w.heap.size) [.int .i64 b.pc, .int .i64 b.len, (.slice (some ⟨bb, off, none⟩) b.ops.length cb1), .int .i64 b.fin, .int .i64 b.x, .int .i64 b.y, .int .i64 b.k] := hx4.bx hBb_3 (by omega)
    have hFb_4 : ∀ oo, w4.frozen? ⟨w.heap.size, oo, none⟩ = false := fun oo => (hx4.frozen (by omega)).trans (hFb_3 oo)
    have hBo_4 : Bx w4 (w.heap.size + 1) [.int .i64 c, .int .i64 o.x, .int .i64 o.y, .int .i64 o.k, .int .i64 o.at_] := hx4.bx hBo_3 (by omega)
    have hFo_4 : ∀ oo, w4.frozen? ⟨w.heap.size + 1, oo, none⟩ = false := fun oo => (hx4.frozen (by omega)).trans (hFo_3 oo)
    clear hBb_3 hFb_3 hBo_3 hFo_3
    clear hy
    have HE1 := hide (HE0.out.trans (by rw [← hpr]))
    clear hpr
    simp only [List.drop_succ_cons, List.drop_zero]
    refine wpList_cutAt 19 (fun a w8 a' w' => ∃ u62 u63 u64 u65 u66 u67 u68 u69 u70 u71 u72 u73 u74 u75 u76 u77 u78 u79, ∃ py : Bool, a' = ⟨#[.agg #[.int .i64 b.pc, .int .i64 b.len, (.slice (some ⟨bb, off, none⟩) b.ops.length cb1), .int .i64 b.fin, .int .i64 b.x, .int .i64 b.y, .int .i64 b.k], .int .i64 (n : Int), .pointer (some ⟨w.heap.size, 0, none⟩), undef, .bool false, .pointer (some ⟨w.heap.size + 1, 0, none⟩), .bool bx, .bool by_, .bool bk, .bool ba, .bool kf, u11, u12, u13, u14, u15, u16, u17, u18, u19, u20, u21, u22, u23, u24, u25, u26, u27, u28, u29, u30, u31, u32, u33, u34, u35, u36, u37, u38, u39, u40, u41, u42, u43, u44, u45, u46, u47, u48, u49, u50, u51, u52, u53, u54, u55, u56, u57, u58, u59, u60, .bool px, u62, u63, u64, u65, u66, u67, u68, u69, u70, u71, u72, u73, u74, u75, u76, u77, u78, u79, .bool py, u81, u82, u83, u84, u85, u86, u87, u88, u89, u90, u91, u92, u93, u94, u95, u96, u97, u98, u99, u100, u101, u102, u103, u104, u105, u106, u107, u108, u109, u110, u111, u112, u113, u114], []⟩ ∧ py = (px && (if by_ = true then valB b.ops o.y n else (o.y == 0))) ∧ Ext w8 w') (fun J K9 hJ hK9 => ?_) (fun a9 w9 hR => ?_)
    · simp only [List.take_succ_cons, List.take_zero]
      cases px
      · 
        go_wp2_with fail
        refine Met.intro (hJ _ _ ?_)
        iterate 19 apply Exists.intro
        refine ⟨?_, ?_, (Ext.auto)⟩
        · rfl
        · simp
      · 
        cases by_
        · 
          by_cases f0 : o.y = 0
          · 
            have f0b : (o.y == 0) = true := by simp [f0]
            have yb : w.heap.size < w4.heap.size := by omega
            have xb0 := hBb_4 0 _ rfl
            have xb1 := hBb_4 1 _ rfl
            have xb2 := hBb_4 2 _ rfl
            have xb3 := hBb_4 3 _ rfl
            have xb4 := hBb_4 4 _ rfl
            have xb5 := hBb_4 5 _ rfl
            have xb6 := hBb_4 6 _ rfl
            have yo : w.heap.size + 1 < w4.heap.size := by omega
            have xo0 := hBo_4 0 _ rfl
            have xo1 := hBo_4 1 _ rfl
            have xo2 := hBo_4 2 _ rfl
            have xo3 := hBo_4 3 _ rfl
            have xo4 := hBo_4 4 _ rfl
            go_wp2_with fail
            refine Met.intro (hJ _ _ ?_)
            iterate 19 apply Exists.intro
            refine ⟨?_, ?_, (Ext.auto)⟩
            · rfl
            · simp [f0b]
          · 
            have f0b : (o.y == 0) = false := by simp [f0]
            have yb : w.heap.size < w4.heap.size := by omega
            have xb0 := hBb_4 0 _ rfl
            have xb1 := hBb_4 1 _ rfl
            have xb2 := hBb_4 2 _ rfl
            have xb3 := hBb_4 3 _ rfl
            have xb4 := hBb_4 4 _ rfl
            have xb5 := hBb_4 5 _ rfl
            have xb6 := hBb_4 6 _ rfl
            have yo : w.heap.size + 1 < w4.heap.size := by omega
            have xo0 := hBo_4 0 _ rfl
            have xo1 := hBo_4 1 _ rfl
            have xo2 := hBo_4 2 _ rfl
            have xo3 := hBo_4 3 _ rfl
            have xo4 := hBo_4 4 _ rfl
            go_wp2_with fail
            refine Met.intro (hJ _ _ ?_)
            iterate 19 apply Exists.intro
            refine ⟨?_, ?_, (Ext.auto)⟩
            · rfl
            · simp [f0b]
        · 
          have yb : w.heap.size < w4.heap.size := by omega
          have xb0 := hBb_4 0 _ rfl
          have xb1 := hBb_4 1 _ rfl
          have xb2 := hBb_4 2 _ rfl
          have xb3 := hBb_4 3 _ rfl
          have xb4 := hBb_4 4 _ rfl
          have xb5 := hBb_4 5 _ rfl
          have xb6 := hBb_4 6 _ rfl
          have yo : w.heap.size + 1 < w4.heap.size := by omega
          have xo0 := hBo_4 0 _ rfl
          have xo1 := hBo_4 1 _ rfl
          have xo2 := hBo_4 2 _ rfl
          have xo3 := hBo_4 3 _ rfl
          have xo4 := hBo_4 4 _ rfl
          go_wp2_with fail
          clear xb0 xb1 xb2 xb3 xb4 xb5 xb6 yb
          clear xo0 xo1 xo2 xo3 xo4 yo
          refine (value_any b o.y n _ _ (h.ext he4) (by omega) (by omega)).mono ?_
          rintro e w5 ⟨rfl, hy⟩
          have hx5 : Ext w4 w5 := Ext.trans (Ext.auto) hy
          have hs5 := hx5.size
          have he5 : Ext w w5 := he4.trans hx5
          have hBb_5 : Bx w5 (w.heap.size) [.int .i64 b.pc, .int .i64 b.len, (.slice (some ⟨bb, off, none⟩) b.ops.length cb1), .int .i64 b.fin, .int .i64 b.x, .int .i64 b.y, .int .i64 b.k] := hx5.bx hBb_4 (by omega)
          have hFb_5 : ∀ oo, w5.frozen? ⟨w.heap.size, oo, none⟩ = false := fun oo => (hx5.frozen (by omega)).trans (hFb_4 oo)
          have hBo_5 : Bx w5 (w.heap.size + 1) [.int .i64 c, .int .i64 o.x, .int .i64 o.y, .int .i64 o.k, .int .i64 o.at_] := hx5.bx hBo_4 (by omega)
          have hFo_5 : ∀ oo, w5.frozen? ⟨w.heap.size + 1, oo, none⟩ = false := fun oo => (hx5.frozen (by omega)).trans (hFo_4 oo)
          clear hBb_4 hFb_4 hBo_4 hFo_4
          clear hy
          cases hv : valB b.ops o.y n
          · 
            have yb : w.heap.size < w5.heap.size := by omega
            have xb0 := hBb_5 0 _ rfl
            have xb1 := hBb_5 1 _ rfl
            have xb2 := hBb_5 2 _ rfl
            have xb3 := hBb_5 3 _ rfl
            have xb4 := hBb_5 4 _ rfl
            have xb5 := hBb_5 5 _ rfl
            have xb6 := hBb_5 6 _ rfl
            have yo : w.heap.size + 1 < w5.heap.size := by omega
            have xo0 := hBo_5 0 _ rfl
            have xo1 := hBo_5 1 _ rfl
            have xo2 := hBo_5 2 _ rfl
            have xo3 := hBo_5 3 _ rfl
            have xo4 := hBo_5 4 _ rfl
            go_wp2_with fail
            refine Met.intro (hJ _ _ ?_)
            iterate 19 apply Exists.intro
            refine ⟨?_, ?_, hx5⟩
            · rfl
            · simp [hv]
          · 
            have yb : w.heap.size < w5.heap.size := by omega
            have xb0 := hBb_5 0 _ rfl
            have xb1 := hBb_5 1 _ rfl
            have xb2 := hBb_5 2 _ rfl
            have xb3 := hBb_5 3 _ rfl
            have xb4 := hBb_5 4 _ rfl
            have xb5 := hBb_5 5 _ rfl
            have xb6 := hBb_5 6 _ rfl
            have yo : w.heap.size + 1 < w5.heap.size := by omega
            have xo0 := hBo_5 0 _ rfl
            have xo1 := hBo_5 1 _ rfl
            have xo2 := hBo_5 2 _ rfl
            have xo3 := hBo_5 3 _ rfl
            have xo4 := hBo_5 4 _ rfl
            go_wp2_with fail
            refine Met.intro (hJ _ _ ?_)
            iterate 19 apply Exists.intro
            refine ⟨?_, ?_, hx5⟩
            · rfl
            · simp [hv]
    obtain ⟨u62, u63, u64, u65, u66, u67, u68, u69, u70, u71, u72, u73, u74, u75, u76, u77, u78, u79, py, rfl, hpr, hy⟩ := hR
    obtain ⟨w5, hw9⟩ : ∃ w5 : World, w5 = w9 := ⟨_, rfl⟩
    subst hw9
    have hx5 : Ext w4 w5 := Ext.trans (Ext.auto) hy
    have hs5 := hx5.size
    have he5 : Ext w w5 := he4.trans hx5
    have hBb_5 : Bx w5 (w.heap.size) [.int .i64 b.pc, .int .i64 b.len, (.slice (some ⟨bb, off, none⟩) b.ops.length cb1), .int .i64 b.fin, .int .i64 b.x, .int .i64 b.y, .int .i64 b.k] := hx5.bx hBb_4 (by omega)
    have hFb_5 : ∀ oo, w5.frozen? ⟨w.heap.size, oo, none⟩ = false := fun oo => (hx5.frozen (by omega)).trans (hFb_4 oo)
    have hBo_5 : Bx w5 (w.heap.size + 1) [.int .i64 c, .int .i64 o.x, .int .i64 o.y, .int .i64 o.k, .int .i64 o.at_] := hx5.bx hBo_4 (by omega)
    have hFo_5 : ∀ oo, w5.frozen? ⟨w.heap.size + 1, oo, none⟩ = false := fun oo => (hx5.frozen (by omega)).trans (hFo_4 oo)
    clear hBb_4 hFb_4 hBo_4 hFo_4
    clear hy
    have HE2 := hide (HE1.out.trans (by rw [← hpr]))
    clear hpr
    simp only [List.drop_succ_cons, List.drop_zero]
    refine wpList_cutAt 15 (fun a w8 a' w' => ∃ u81 u82 u83 u84 u85 u86 u87 u88 u89 u90 u91 u92 u93 u94, ∃ pk : Bool, a' = ⟨#[.agg #[.int .i64 b.pc, .int .i64 b.len, (.slice (some ⟨bb, off, none⟩) b.ops.length cb1), .int .i64 b.fin, .int .i64 b.x, .int .i64 b.y, .int .i64 b.k], .int .i64 (n : Int), .pointer (some ⟨w.heap.size, 0, none⟩), undef, .bool false, .pointer (some ⟨w.heap.size + 1, 0, none⟩), .bool bx, .bool by_, .bool bk, .bool ba, .bool kf, u11, u12, u13, u14, u15, u16, u17, u18, u19, u20, u21, u22, u23, u24, u25, u26, u27, u28, u29, u30, u31, u32, u33, u34, u35, u36, u37, u38, u39, u40, u41, u42, u43, u44, u45, u46, u47, u48, u49, u50, u51, u52, u53, u54, u55, u56, u57, u58, u59, u60, .bool px, u62, u63, u64, u65, u66, u67, u68, u69, u70, u71, u72, u73, u74, u75, u76, u77, u78, u79, .bool py, u81, u82, u83, u84, u85, u86, u87, u88, u89, u90, u91, u92, u93, u94, .bool pk, u96, u97, u98, u99, u100, u101, u102, u103, u104, u105, u106, u107, u108, u109, u110, u111, u112, u113, u114], []⟩ ∧ pk = (py && (if bk = true then kf else (o.k == 0))) ∧ Ext w8 w') (fun J K9 hJ hK9 => ?_) (fun a9 w9 hR => ?_)
    · simp only [List.take_succ_cons, List.take_zero]
      cases py
      · 
        go_wp2_with fail
        refine Met.intro (hJ _ _ ?_)
        iterate 15 apply Exists.intro
        refine ⟨?_, ?_, (Ext.auto)⟩
        · rfl
        · simp
      · 
        cases bk
        · 
          by_cases f0 : o.k = 0
          · 
            have f0b : (o.k == 0) = true := by simp [f0]
            have yb : w.heap.size < w5.heap.size := by omega
            have xb0 := hBb_5 0 _ rfl
            have xb1 := hBb_5 1 _ rfl
            have xb2 := hBb_5 2 _ rfl
            have xb3 := hBb_5 3 _ rfl
            have xb4 := hBb_5 4 _ rfl
            have xb5 := hBb_5 5 _ rfl
            have xb6 := hBb_5 6 _ rfl
            have yo : w.heap.size + 1 < w5.heap.size := by omega
            have xo0 := hBo_5 0 _ rfl
            have xo1 := hBo_5 1 _ rfl
            have xo2 := hBo_5 2 _ rfl
            have xo3 := hBo_5 3 _ rfl
            have xo4 := hBo_5 4 _ rfl
            go_wp2_with fail
            refine Met.intro (hJ _ _ ?_)
            iterate 15 apply Exists.intro
            refine ⟨?_, ?_, (Ext.auto)⟩
            · rfl
            · simp [f0b]
          · 
            have f0b : (o.k == 0) = false := by simp [f0]
            have yb : w.heap.size < w5.heap.size := by omega
            have xb0 := hBb_5 0 _ rfl
            have xb1 := hBb_5 1 _ rfl
            have xb2 := hBb_5 2 _ rfl
            have xb3 := hBb_5 3 _ rfl
            have xb4 := hBb_5 4 _ rfl
            have xb5 := hBb_5 5 _ rfl
            have xb6 := hBb_5 6 _ rfl
            have yo : w.heap.size + 1 < w5.heap.size := by omega
            have xo0 := hBo_5 0 _ rfl
            have xo1 := hBo_5 1 _ rfl
            have xo2 := hBo_5 2 _ rfl
            have xo3 := hBo_5 3 _ rfl
            have xo4 := hBo_5 4 _ rfl
            go_wp2_with fail
            refine Met.intro (hJ _ _ ?_)
            iterate 15 apply Exists.intro
            refine ⟨?_, ?_, (Ext.auto)⟩
            · rfl
            · simp [f0b]
        · 
          cases kf
          · 
            have yb : w.heap.size < w5.heap.size := by omega
            have xb0 := hBb_5 0 _ rfl
            have xb1 := hBb_5 1 _ rfl
            have xb2 := hBb_5 2 _ rfl
            have xb3 := hBb_5 3 _ rfl
            have xb4 := hBb_5 4 _ rfl
            have xb5 := hBb_5 5 _ rfl
            have xb6 := hBb_5 6 _ rfl
            have yo : w.heap.size + 1 < w5.heap.size := by omega
            have xo0 := hBo_5 0 _ rfl
            have xo1 := hBo_5 1 _ rfl
            have xo2 := hBo_5 2 _ rfl
            have xo3 := hBo_5 3 _ rfl
            have xo4 := hBo_5 4 _ rfl
            go_wp2_with fail
            refine Met.intro (hJ _ _ ?_)
            iterate 15 apply Exists.intro
            refine ⟨?_, ?_, (Ext.auto)⟩
            · rfl
            · simp
          · 
            have yb : w.heap.size < w5.heap.size := by omega
            have xb0 := hBb_5 0 _ rfl
            have xb1 := hBb_5 1 _ rfl
            have xb2 := hBb_5 2 _ rfl
            have xb3 := hBb_5 3 _ rfl
            have xb4 := hBb_5 4 _ rfl
            have xb5 := hBb_5 5 _ rfl
            have xb6 := hBb_5 6 _ rfl
            have yo : w.heap.size + 1 < w5.heap.size := by omega
            have xo0 := hBo_5 0 _ rfl
            have xo1 := hBo_5 1 _ rfl
            have xo2 := hBo_5 2 _ rfl
            have xo3 := hBo_5 3 _ rfl
            have xo4 := hBo_5 4 _ rfl
            go_wp2_with fail
            refine Met.intro (hJ _ _ ?_)
            iterate 15 apply Exists.intro
            refine ⟨?_, ?_, (Ext.auto)⟩
            · rfl
            · simp
    obtain ⟨u81, u82, u83, u84, u85, u86, u87, u88, u89, u90, u91, u92, u93, u94, pk, rfl, hpr, hy⟩ := hR
    obtain ⟨w6, hw9⟩ : ∃ w6 : World, w6 = w9 := ⟨_, rfl⟩
    subst hw9
    have hx6 : Ext w5 w6 := Ext.trans (Ext.auto) hy
    have hs6 := hx6.size
    have he6 : Ext w w6 := he5.trans hx6
    have hBb_6 : Bx w6 (w.heap.size) [.int .i64 b.pc, .int .i64 b.len, (.slice (some ⟨bb, off, none⟩) b.ops.length cb1), .int .i64 b.fin, .int .i64 b.x, .int .i64 b.y, .int .i64 b.k] := hx6.bx hBb_5 (by omega)
    have hFb_6 : ∀ oo, w6.frozen? ⟨w.heap.size, oo, none⟩ = false := fun oo => (hx6.frozen (by omega)).trans (hFb_5 oo)
    have hBo_6 : Bx w6 (w.heap.size + 1) [.int .i64 c, .int .i64 o.x, .int .i64 o.y, .int .i64 o.k, .int .i64 o.at_] := hx6.bx hBo_5 (by omega)
    have hFo_6 : ∀ oo, w6.frozen? ⟨w.heap.size + 1, oo, none⟩ = false := fun oo => (hx6.frozen (by omega)).trans (hFo_5 oo)
    clear hBb_5 hFb_5 hBo_5 hFo_5
    clear hy
    have HE3 := hide (HE2.out.trans (by rw [← hpr]))
    clear hpr
    simp only [List.drop_succ_cons, List.drop_zero]
    cases pk
    · 
      have yb : w.heap.size < w6.heap.size := by omega
      have xb0 := hBb_6 0 _ rfl
      have xb1 := hBb_6 1 _ rfl
      have xb2 := hBb_6 2 _ rfl
      have xb3 := hBb_6 3 _ rfl
      have xb4 := hBb_6 4 _ rfl
      have xb5 := hBb_6 5 _ rfl
      have xb6 := hBb_6 6 _ rfl
      have yo : w.heap.size + 1 < w6.heap.size := by omega
      have xo0 := hBo_6 0 _ rfl
      have xo1 := hBo_6 1 _ rfl
      have xo2 := hBo_6 2 _ rfl
      have xo3 := hBo_6 3 _ rfl
      have xo4 := hBo_6 4 _ rfl
      go_wp2_with fail
      go_ret
      exact ⟨ret_bool (by rw [HE3.out]; rfl), he6⟩
    · 
      cases ba
      · by_cases f0 : o.at_ = 0
        · 
          have yb : w.heap.size < w6.heap.size := by omega
          have xb0 := hBb_6 0 _ rfl
          have xb1 := hBb_6 1 _ rfl
          have xb2 := hBb_6 2 _ rfl
          have xb3 := hBb_6 3 _ rfl
          have xb4 := hBb_6 4 _ rfl
          have xb5 := hBb_6 5 _ rfl
          have xb6 := hBb_6 6 _ rfl
          have yo : w.heap.size + 1 < w6.heap.size := by omega
          have xo0 := hBo_6 0 _ rfl
          have xo1 := hBo_6 1 _ rfl
          have xo2 := hBo_6 2 _ rfl
          have xo3 := hBo_6 3 _ rfl
          have xo4 := hBo_6 4 _ rfl
          go_wp2_with fail
          go_ret
          exact ⟨ret_bool (by rw [HE3.out]; simp [f0]), he6⟩
        · 
          have yb : w.heap.size < w6.heap.size := by omega
          have xb0 := hBb_6 0 _ rfl
          have xb1 := hBb_6 1 _ rfl
          have xb2 := hBb_6 2 _ rfl
          have xb3 := hBb_6 3 _ rfl
          have xb4 := hBb_6 4 _ rfl
          have xb5 := hBb_6 5 _ rfl
          have xb6 := hBb_6 6 _ rfl
          have yo : w.heap.size + 1 < w6.heap.size := by omega
          have xo0 := hBo_6 0 _ rfl
          have xo1 := hBo_6 1 _ rfl
          have xo2 := hBo_6 2 _ rfl
          have xo3 := hBo_6 3 _ rfl
          have xo4 := hBo_6 4 _ rfl
          go_wp2_with fail
          go_ret
          exact ⟨ret_bool (by rw [HE3.out]; simp [f0]), he6⟩
      · cases fa : inB o.at_ 0 (b.len - 1)
        · 
          have yb : w.heap.size < w6.heap.size := by omega
          have xb0 := hBb_6 0 _ rfl
          have xb1 := hBb_6 1 _ rfl
          have xb2 := hBb_6 2 _ rfl
          have xb3 := hBb_6 3 _ rfl
          have xb4 := hBb_6 4 _ rfl
          have xb5 := hBb_6 5 _ rfl
          have xb6 := hBb_6 6 _ rfl
          have yo : w.heap.size + 1 < w6.heap.size := by omega
          have xo0 := hBo_6 0 _ rfl
          have xo1 := hBo_6 1 _ rfl
          have xo2 := hBo_6 2 _ rfl
          have xo3 := hBo_6 3 _ rfl
          have xo4 := hBo_6 4 _ rfl
          go_wp2_with (go_at_call 48; refine (in_any _ _ _ _).mono ?_; rintro e w' ⟨rfl, rfl⟩; rw [fa])
          go_ret
          exact ⟨ret_bool (by rw [HE3.out]; simp [fa]), he6⟩
        · 
          have yb : w.heap.size < w6.heap.size := by omega
          have xb0 := hBb_6 0 _ rfl
          have xb1 := hBb_6 1 _ rfl
          have xb2 := hBb_6 2 _ rfl
          have xb3 := hBb_6 3 _ rfl
          have xb4 := hBb_6 4 _ rfl
          have xb5 := hBb_6 5 _ rfl
          have xb6 := hBb_6 6 _ rfl
          have yo : w.heap.size + 1 < w6.heap.size := by omega
          have xo0 := hBo_6 0 _ rfl
          have xo1 := hBo_6 1 _ rfl
          have xo2 := hBo_6 2 _ rfl
          have xo3 := hBo_6 3 _ rfl
          have xo4 := hBo_6 4 _ rfl
          go_wp2_with (go_at_call 48; refine (in_any _ _ _ _).mono ?_; rintro e w' ⟨rfl, rfl⟩; rw [fa])
          go_ret
          exact ⟨ret_bool (by rw [HE3.out]; simp [fa]), he6⟩

end Go.Proofs.Yteaacelfnkiboaa
