/-
  A copy of what a piece of code does: the program.
-/
import Derived.Test.YtdmbgljkogpmdaaPolL
import Derived.Deep.DeepCutAuto
namespace Go.Proofs.Ytdmbgljkogpmdaa
open Go.RowKit

set_option linter.unusedVariables false
set_option linter.unusedSimpArgs false
set_option maxRecDepth 100000

set_option maxHeartbeats 32000000 in
theorem cloneSym_any (u : SymSym) (vu1 vu2 vu3 vu4 : Value) (w : World) (hu1 : Sl w (Old w) vu1 u.events) (hu2 : Sl w (Old w) vu2 u.regs) (hu3 : Sl w (Old w) vu3 u.x.monos) (hu4 : Sl w (Old w) vu4 u.y.monos) (hn : Bulk.blk u ≤ 4194304) :
    Calls Try.prog 59 #[.agg #[vu1, vu2, .int .i64 u.fin, vu3, vu4, .int .i64 u.k]] w fun e w' => ∃ r1 r2 r3 r4 F1 F2 F3 F4, e = .returned (.agg #[r1, r2, .int .i64 u.fin, r3, r4, .int .i64 u.k]) ∧ OwnSl w' r1 u.events F1 ∧ OwnSl w' r2 u.regs F2 ∧ OwnSl w' r3 u.x.monos F3 ∧ OwnSl w' r4 u.y.monos F4 ∧ Fr w w' (F1 ++ F2 ++ F3 ++ F4) ∧ Ext w w' := by
  obtain ⟨Au1, cu1, rfl, hlu1, hmu1⟩ := hu1.form
  obtain ⟨Au2, cu2, rfl, hlu2, hmu2⟩ := hu2.form
  obtain ⟨Au3, cu3, rfl, hlu3, hmu3⟩ := hu3.form
  obtain ⟨Au4, cu4, rfl, hlu4, hmu4⟩ := hu4.form
  unfold maxLen at hmu1 hmu2 hmu3 hmu4
  obtain ⟨i0a, hi_, hz0, hz1, hz2⟩ := info_parts infSymEvent
  have HIa := hide hi_
  have HZ0a := hide hz0
  have HZ1a := hide hz1
  have HZ2a := hide hz2
  clear hi_ hz0 hz1 hz2
  have hbl := blk_len u.events
  have hbs : Bulk.blk u = Bulk.blk u.events + Bulk.blk u.regs + Bulk.blk u.x.monos + Bulk.blk u.y.monos := rfl
  have hb3_ : Bulk.blk u.x ≤ 4194304 := by have : Bulk.blk u.x = Bulk.blk u.x.monos := rfl; omega
  have hb4_ : Bulk.blk u.y ≤ 4194304 := by have : Bulk.blk u.y = Bulk.blk u.y.monos := rfl; omega
  go_enter Try.func59, Try.ntmps59
  go_upto_region 1 with fail
  have he0 : Ext w ((w.alloc (Obj.cells #[(.slice Au1 u.events.length cu1), (.slice Au2 u.regs.length cu2), .int .i64 u.fin, (.slice Au3 u.x.monos.length cu3), (.slice Au4 u.y.monos.length cu4), .int .i64 u.k] 62)).alloc (Obj.cells #[.slice none 0 0, .slice none 0 0, .int .i64 0, .slice none 0 0, .slice none 0 0, .int .i64 0] 62)) := (Ext.auto)
  have hs0 : w.heap.size + 2 ≤ (((w.alloc (Obj.cells #[(.slice Au1 u.events.length cu1), (.slice Au2 u.regs.length cu2), .int .i64 u.fin, (.slice Au3 u.x.monos.length cu3), (.slice Au4 u.y.monos.length cu4), .int .i64 u.k] 62)).alloc (Obj.cells #[.slice none 0 0, .slice none 0 0, .int .i64 0, .slice none 0 0, .slice none 0 0, .int .i64 0] 62))).heap.size := by simp
  have hq0 := hide (show (((w.alloc (Obj.cells #[(.slice Au1 u.events.length cu1), (.slice Au2 u.regs.length cu2), .int .i64 u.fin, (.slice Au3 u.x.monos.length cu3), (.slice Au4 u.y.monos.length cu4), .int .i64 u.k] 62)).alloc (Obj.cells #[.slice none 0 0, .slice none 0 0, .int .i64 0, .slice none 0 0, .slice none 0 0, .int .i64 0] 62))).heap.size = w.heap.size + 2 by simp)
  have hBu_0 : Bx ((w.alloc (Obj.cells #[(.slice Au1 u.events.length cu1), (.slice Au2 u.regs.length cu2), .int .i64 u.fin, (.slice Au3 u.x.monos.length cu3), (.slice Au4 u.y.monos.length cu4), .int .i64 u.k] 62)).alloc (Obj.cells #[.slice none 0 0, .slice none 0 0, .int .i64 0, .slice none 0 0, .slice none 0 0, .int .i64 0] 62)) (w.heap.size) [(.slice Au1 u.events.length cu1), (.slice Au2 u.regs.length cu2), .int .i64 u.fin, (.slice Au3 u.x.monos.length cu3), (.slice Au4 u.y.monos.length cu4), .int .i64 u.k] := (by have := (Bx.alloc (Bx.new w #[(.slice Au1 u.events.length cu1), (.slice Au2 u.regs.length cu2), .int .i64 u.fin, (.slice Au3 u.x.monos.length cu3), (.slice Au4 u.y.monos.length cu4), .int .i64 u.k] 62) (by simp) #[.slice none 0 0, .slice none 0 0, .int .i64 0, .slice none 0 0, .slice none 0 0, .int .i64 0] 62); simpa using this)
  have hFu_0 : ∀ oo, (((w.alloc (Obj.cells #[(.slice Au1 u.events.length cu1), (.slice Au2 u.regs.length cu2), .int .i64 u.fin, (.slice Au3 u.x.monos.length cu3), (.slice Au4 u.y.monos.length cu4), .int .i64 u.k] 62)).alloc (Obj.cells #[.slice none 0 0, .slice none 0 0, .int .i64 0, .slice none 0 0, .slice none 0 0, .int .i64 0] 62))).frozen? ⟨w.heap.size, oo, none⟩ = false := fun oo => by simp
  have hBres_0 : Bx ((w.alloc (Obj.cells #[(.slice Au1 u.events.length cu1), (.slice Au2 u.regs.length cu2), .int .i64 u.fin, (.slice Au3 u.x.monos.length cu3), (.slice Au4 u.y.monos.length cu4), .int .i64 u.k] 62)).alloc (Obj.cells #[.slice none 0 0, .slice none 0 0, .int .i64 0, .slice none 0 0, .slice none 0 0, .int .i64 0] 62)) (w.heap.size + 1) [.slice none 0 0, .slice none 0 0, .int .i64 0, .slice none 0 0, .slice none 0 0, .int .i64 0] := (by have := (Bx.new (w.alloc (Obj.cells #[(.slice Au1 u.events.length cu1), (.slice Au2 u.regs.length cu2), .int .i64 u.fin, (.slice Au3 u.x.monos.length cu3), (.slice Au4 u.y.monos.length cu4), .int .i64 u.k] 62)) #[.slice none 0 0, .slice none 0 0, .int .i64 0, .slice none 0 0, .slice none 0 0, .int .i64 0] 62); simpa using this)
  have hFres_0 : ∀ oo, (((w.alloc (Obj.cells #[(.slice Au1 u.events.length cu1), (.slice Au2 u.regs.length cu2), .int .i64 u.fin, (.slice Au3 u.x.monos.length cu3), (.slice Au4 u.y.monos.length cu4), .int .i64 u.k] 62)).alloc (Obj.cells #[.slice none 0 0, .slice none 0 0, .int .i64 0, .slice none 0 0, .slice none 0 0, .int .i64 0] 62))).frozen? ⟨w.heap.size + 1, oo, none⟩ = false := fun oo => by simp
  generalize ((w.alloc (Obj.cells #[(.slice Au1 u.events.length cu1), (.slice Au2 u.regs.length cu2), .int .i64 u.fin, (.slice Au3 u.x.monos.length cu3), (.slice Au4 u.y.monos.length cu4), .int .i64 u.k] 62)).alloc (Obj.cells #[.slice none 0 0, .slice none 0 0, .int .i64 0, .slice none 0 0, .slice none 0 0, .int .i64 0] 62)) = w0 at *
  go_cut [3] (fun v3 wx => ∃ (q : Nat) (A2 A3 A4 : Option Addr) (c2 c3 c4 : Nat) (F2 F3 F4 : List Nat), v3 = .pointer (some ⟨q, 0, none⟩) ∧ Ext w0 wx ∧ w0.heap.size ≤ q ∧ q < wx.heap.size ∧ Bx wx q [.slice none 0 0, .slice A2 u.regs.length c2, .int .i64 u.fin, .slice A3 u.x.monos.length c3, .slice A4 u.y.monos.length c4, .int .i64 u.k] ∧ (∀ oo, wx.frozen? ⟨q, oo, none⟩ = false) ∧ OwnSl wx (.slice A2 u.regs.length c2) u.regs F2 ∧ OwnSl wx (.slice A3 u.x.monos.length c3) u.x.monos F3 ∧ OwnSl wx (.slice A4 u.y.monos.length c4) u.y.monos F4 ∧ Fr w0 wx (F2 ++ F3 ++ F4) ∧ q ∉ F2 ++ F3 ++ F4)
  · 
    have yu : w.heap.size < w0.heap.size := by omega
    have xu0 := hBu_0 0 _ rfl
    have xu1 := hBu_0 1 _ rfl
    have xu2 := hBu_0 2 _ rfl
    have xu3 := hBu_0 3 _ rfl
    have xu4 := hBu_0 4 _ rfl
    have xu5 := hBu_0 5 _ rfl
    go_upto_region 1 with fail
    have hS : ∀ w', Ext w0 w' → ∀ bb oo, bb < w0.heap.size → w'.cell? ⟨bb, oo, none⟩ = w0.cell? ⟨bb, oo, none⟩ := fun w' hx bb oo hb => hx.cell hb
    refine wp_region_plan (fun w' => Ext w0 w') 15 (.float 0 (.float 1 (.float 3 (.float 4 (.float 5 (.float 6 (.float 8 (.float 9 (.float 11 (.float 12 (.fork 2 14 (.fork 7 14 (.fork 10 14 (.float 13 (.chain 14 (.tail 15))) (.chain 10 (.float 13 (.tail 15)))) (.chain 7 (.chain 10 (.float 13 (.tail 15))))) (.chain 2 (.chain 7 (.chain 10 (.float 13 (.tail 15)))))))))))))))) (by kernel_rfl) (by kernel_rfl) (Ext.refl _).drew ?_
    iterate 10 ((refine Plan.float_step (v := ?_) rfl (by rfl) (fun _ _ _ h => h) (fun w' hSw => ?_) ?_; rotate_left; · (go_simp; try with_reducible rfl)); (try simp only [Act.put, List.setIfInBounds_toArray, List.set_cons_zero, List.set_cons_succ]))
    refine Plan.fork_step ?_ ?_
    · 
      refine Plan.chain_step rfl (fun K hK => ?_)
      go_simp
      refine (clonePolys_any u.regs _ _ (hu2.ext (Ext.trans he0 Ext.auto)) (by omega)).mono ?_
      rintro e w1 ⟨r2, F2, rfl, hO2, hF2_, hy⟩
      refine hK.out _ _ (Ext.trans Ext.auto hy) ?_
      clear hK
      (try simp only [Act.put, List.setIfInBounds_toArray, List.set_cons_zero, List.set_cons_succ])
      have hF2 : Fr w0 w1 F2 := hF2_.mk1 (by simp) (Nat.le_refl _)
      clear hF2_
      have hx1 : Ext w0 w1 := Ext.trans (Ext.auto) hy
      have hs1 := hx1.size
      have he1 : Ext w w1 := he0.trans hx1
      have hBu_1 : Bx w1 (w.heap.size) [(.slice Au1 u.events.length cu1), (.slice Au2 u.regs.length cu2), .int .i64 u.fin, (.slice Au3 u.x.monos.length cu3), (.slice Au4 u.y.monos.length cu4), .int .i64 u.k] := hx1.bx hBu_0 (by omega)
      have hFu_1 : ∀ oo, w1.frozen? ⟨w.heap.size, oo, none⟩ = false := fun oo => (hx1.frozen (by omega)).trans (hFu_0 oo)
      have hBres_1 : Bx w1 (w.heap.size + 1) [.slice none 0 0, .slice none 0 0, .int .i64 0, .slice none 0 0, .slice none 0 0, .int .i64 0] := hx1.bx hBres_0 (by omega)
      have hFres_1 : ∀ oo, w1.frozen? ⟨w.heap.size + 1, oo, none⟩ = false := fun oo => (hx1.frozen (by omega)).trans (hFres_0 oo)
      clear hBu_0 hFu_0 hBres_0 hFres_0
      clear hy
      obtain ⟨A2, c2, rfl, -, -⟩ := hO2.sl.form
      refine Plan.fork_step ?_ ?_
      · 
        refine Plan.chain_step rfl (fun K hK => ?_)
        go_simp
        refine (clonePol_any u.x _ _ (hu3.ext (Ext.trans he1 Ext.auto)) (by omega)).mono ?_
        rintro e w2 ⟨r3, F3, rfl, hO3, hF3_, hy⟩
        refine hK.out _ _ (Ext.trans (hx1.trans Ext.auto) hy) ?_
        clear hK
        (try simp only [Act.put, List.setIfInBounds_toArray, List.set_cons_zero, List.set_cons_succ])
        have hF3 : Fr w1 w2 F3 := hF3_.mk1 (by simp) (Nat.le_refl _)
        clear hF3_
        have hx2 : Ext w1 w2 := Ext.trans (Ext.auto) hy
        have hs2 := hx2.size
        have he2 : Ext w w2 := he1.trans hx2
        have hBu_2 : Bx w2 (w.heap.size) [(.slice Au1 u.events.length cu1), (.slice Au2 u.regs.length cu2), .int .i64 u.fin, (.slice Au3 u.x.monos.length cu3), (.slice Au4 u.y.monos.length cu4), .int .i64 u.k] := hx2.bx hBu_1 (by omega)
        have hFu_2 : ∀ oo, w2.frozen? ⟨w.heap.size, oo, none⟩ = false := fun oo => (hx2.frozen (by omega)).trans (hFu_1 oo)
        have hBres_2 : Bx w2 (w.heap.size + 1) [.slice none 0 0, .slice none 0 0, .int .i64 0, .slice none 0 0, .slice none 0 0, .int .i64 0] := hx2.bx hBres_1 (by omega)
        have hFres_2 : ∀ oo, w2.frozen? ⟨w.heap.size + 1, oo, none⟩ = false := fun oo => (hx2.frozen (by omega)).trans (hFres_1 oo)
        clear hBu_1 hFu_1 hBres_1 hFres_1
        clear hy
        obtain ⟨A3, c3, rfl, -, -⟩ := hO3.sl.form
        refine Plan.fork_step ?_ ?_
        · 
          refine Plan.chain_step rfl (fun K hK => ?_)
          go_simp
          refine (clonePol_any u.y _ _ (hu4.ext (Ext.trans he2 Ext.auto)) (by omega)).mono ?_
          rintro e w3 ⟨r4, F4, rfl, hO4, hF4_, hy⟩
          refine hK.out _ _ (Ext.trans ((Ext.trans hx1 hx2).trans Ext.auto) hy) ?_
          clear hK
          (try simp only [Act.put, List.setIfInBounds_toArray, List.set_cons_zero, List.set_cons_succ])
          have hF4 : Fr w2 w3 F4 := hF4_.mk1 (by simp) (Nat.le_refl _)
          clear hF4_
          have hx3 : Ext w2 w3 := Ext.trans (Ext.auto) hy
          have hs3 := hx3.size
          have he3 : Ext w w3 := he2.trans hx3
          have hBu_3 : Bx w3 (w.heap.size) [(.slice Au1 u.events.length cu1), (.slice Au2 u.regs.length cu2), .int .i64 u.fin, (.slice Au3 u.x.monos.length cu3), (.slice Au4 u.y.monos.length cu4), .int .i64 u.k] := hx3.bx hBu_2 (by omega)
          have hFu_3 : ∀ oo, w3.frozen? ⟨w.heap.size, oo, none⟩ = false := fun oo => (hx3.frozen (by omega)).trans (hFu_2 oo)
          have hBres_3 : Bx w3 (w.heap.size + 1) [.slice none 0 0, .slice none 0 0, .int .i64 0, .slice none 0 0, .slice none 0 0, .int .i64 0] := hx3.bx hBres_2 (by omega)
          have hFres_3 : ∀ oo, w3.frozen? ⟨w.heap.size + 1, oo, none⟩ = false := fun oo => (hx3.frozen (by omega)).trans (hFres_2 oo)
          clear hBu_2 hFu_2 hBres_2 hFres_2
          clear hy
          obtain ⟨A4, c4, rfl, -, -⟩ := hO4.sl.form
          (refine Plan.float_step (v := ?_) rfl (by rfl) (fun _ _ _ h => h) (fun w' hSw => ?_) ?_; rotate_left; · (go_simp; try with_reducible rfl)); (try simp only [Act.put, List.setIfInBounds_toArray, List.set_cons_zero, List.set_cons_succ])
          refine Plan.chain_step rfl (fun K hK => ?_)
          go_simp
          refine hK.out _ _ (Ext.trans (Ext.trans (Ext.trans hx1 hx2) hx3) (show Ext w3 (w3.alloc (.cells #[.slice none 0 0, .slice none 0 0, .int .i64 0, .slice none 0 0, .slice none 0 0, .int .i64 0] 62)) from Ext.auto)) ?_
          clear hK
          (try simp only [Act.put, List.setIfInBounds_toArray, List.set_cons_zero, List.set_cons_succ])
          have hyA : Ext w3 (w3.alloc (.cells #[.slice none 0 0, .slice none 0 0, .int .i64 0, .slice none 0 0, .slice none 0 0, .int .i64 0] 62)) := Ext.auto
          have hsA : w3.heap.size < ((w3.alloc (.cells #[.slice none 0 0, .slice none 0 0, .int .i64 0, .slice none 0 0, .slice none 0 0, .int .i64 0] 62))).heap.size := by simp
          have hBA : Bx ((w3.alloc (.cells #[.slice none 0 0, .slice none 0 0, .int .i64 0, .slice none 0 0, .slice none 0 0, .int .i64 0] 62))) w3.heap.size [.slice none 0 0, .slice none 0 0, .int .i64 0, .slice none 0 0, .slice none 0 0, .int .i64 0] := Bx.new w3 #[.slice none 0 0, .slice none 0 0, .int .i64 0, .slice none 0 0, .slice none 0 0, .int .i64 0] 62
          have hFA : ∀ oo, ((w3.alloc (.cells #[.slice none 0 0, .slice none 0 0, .int .i64 0, .slice none 0 0, .slice none 0 0, .int .i64 0] 62))).frozen? ⟨w3.heap.size, oo, none⟩ = false := fz_new w3 #[.slice none 0 0, .slice none 0 0, .int .i64 0, .slice none 0 0, .slice none 0 0, .int .i64 0] 62 rfl
          generalize (w3.alloc (.cells #[.slice none 0 0, .slice none 0 0, .int .i64 0, .slice none 0 0, .slice none 0 0, .int .i64 0] 62)) = w4 at *
          have hx4 : Ext w3 w4 := Ext.trans (Ext.auto) hyA
          have hs4 := hx4.size
          have he4 : Ext w w4 := he3.trans hx4
          have hBu_4 : Bx w4 (w.heap.size) [(.slice Au1 u.events.length cu1), (.slice Au2 u.regs.length cu2), .int .i64 u.fin, (.slice Au3 u.x.monos.length cu3), (.slice Au4 u.y.monos.length cu4), .int .i64 u.k] := hx4.bx hBu_3 (by omega)
          have hFu_4 : ∀ oo, w4.frozen? ⟨w.heap.size, oo, none⟩ = false := fun oo => (hx4.frozen (by omega)).trans (hFu_3 oo)
          have hBres_4 : Bx w4 (w.heap.size + 1) [.slice none 0 0, .slice none 0 0, .int .i64 0, .slice none 0 0, .slice none 0 0, .int .i64 0] := hx4.bx hBres_3 (by omega)
          have hFres_4 : ∀ oo, w4.frozen? ⟨w.heap.size + 1, oo, none⟩ = false := fun oo => (hx4.frozen (by omega)).trans (hFres_3 oo)
          clear hBu_3 hFu_3 hBres_3 hFres_3
          have hBq_4 := hBA
          have hFq_4 := hFA
          clear hBA hFA hyA
          have yq : w3.heap.size < w4.heap.size := by omega
          have xq0 := hBq_4 0 _ rfl
          have xq1 := hBq_4 1 _ rfl
          have xq2 := hBq_4 2 _ rfl
          have xq3 := hBq_4 3 _ rfl
          have xq4 := hBq_4 4 _ rfl
          have xq5 := hBq_4 5 _ rfl
          have fq := hFq_4
          have hcl : Ext w0 w4 := (Ext.trans (Ext.trans (Ext.trans hx1 hx2) hx3) hx4)
          refine Plan.tail_step ?_
          simp only [List.drop_succ_cons, List.drop_zero]
          clear hS
          go_wp2_with fail
          have hFF : Fr w0 w4 (F2 ++ F3 ++ F4) := Fr.mk2 (w := w0) (w' := w4) (Fr.mk2 (w := w0) (w' := w2) hF2 hF3 (by omega) (by omega) (by omega) (by omega) (by omega)) hF4 (by omega) (by omega) (by omega) (by omega) (by omega)
          have hqn : w3.heap.size ∉ F2 ++ F3 ++ F4 := fun hm => by
            rcases List.mem_append.1 hm with hm | hm
            · rcases List.mem_append.1 hm with hm | hm
              · have q := hF2.2 _ hm; have q1 := q.1; have q2 := q.2; omega
              · have q := hF3.2 _ hm; have q1 := q.1; have q2 := q.2; omega
            · have q := hF4.2 _ hm; have q1 := q.1; have q2 := q.2; omega
          go_meet
          exact ⟨w3.heap.size, A2, A3, A4, c2, c3, c4, F2, F3, F4, rfl, Ext.hold hcl, by omega, by first | omega | (simp; omega), (by have := (Bx.put (Bx.put (Bx.put (Bx.put (Bx.put (Bx.put hBq_4 (j := 0) (by simp) (.slice none 0 0)) (j := 1) (by simp) (.slice A2 u.regs.length c2)) (j := 2) (by simp) (.int .i64 u.fin)) (j := 3) (by simp) (.slice A3 u.x.monos.length c3)) (j := 4) (by simp) (.slice A4 u.y.monos.length c4)) (j := 5) (by simp) (.int .i64 u.k)); simpa using this), fz_hold hFq_4, OwnSl.stay (OwnSl.up hO2 hF2 (Ext.trans (Ext.trans hx2 hx3) hx4)) (fun z hz => by
              have q := hF2.2 z hz; have q1 := q.1; have q2 := q.2
              repeat (first | rw [heap_set _ _ _ _ (by show _ ≠ z; omega)] | rw [heap_set _ _ _ _ (by simp; omega)])), OwnSl.stay (OwnSl.up hO3 hF3 (Ext.trans hx3 hx4)) (fun z hz => by
              have q := hF3.2 z hz; have q1 := q.1; have q2 := q.2
              repeat (first | rw [heap_set _ _ _ _ (by show _ ≠ z; omega)] | rw [heap_set _ _ _ _ (by simp; omega)])), OwnSl.stay (OwnSl.up hO4 hF4 hx4) (fun z hz => by
              have q := hF4.2 z hz; have q1 := q.1; have q2 := q.2
              repeat (first | rw [heap_set _ _ _ _ (by show _ ≠ z; omega)] | rw [heap_set _ _ _ _ (by simp; omega)])), hFF.mk1 (Nat.le_refl _) (by simp), hqn⟩
        · 
          refine Plan.chain_step rfl (fun K hK => ?_)
          go_simp
          refine hK.out _ _ (Ext.trans (Ext.trans hx1 hx2) (show Ext w2 (w2.alloc (.cells #[.slice none 0 0, .slice none 0 0, .int .i64 0, .slice none 0 0, .slice none 0 0, .int .i64 0] 62)) from Ext.auto)) ?_
          clear hK
          (try simp only [Act.put, List.setIfInBounds_toArray, List.set_cons_zero, List.set_cons_succ])
          have hyA : Ext w2 (w2.alloc (.cells #[.slice none 0 0, .slice none 0 0, .int .i64 0, .slice none 0 0, .slice none 0 0, .int .i64 0] 62)) := Ext.auto
          have hsA : w2.heap.size < ((w2.alloc (.cells #[.slice none 0 0, .slice none 0 0, .int .i64 0, .slice none 0 0, .slice none 0 0, .int .i64 0] 62))).heap.size := by simp
          have hBA : Bx ((w2.alloc (.cells #[.slice none 0 0, .slice none 0 0, .int .i64 0, .slice none 0 0, .slice none 0 0, .int .i64 0] 62))) w2.heap.size [.slice none 0 0, .slice none 0 0, .int .i64 0, .slice none 0 0, .slice none 0 0, .int .i64 0] := Bx.new w2 #[.slice none 0 0, .slice none 0 0, .int .i64 0, .slice none 0 0, .slice none 0 0, .int .i64 0] 62
          have hFA : ∀ oo, ((w2.alloc (.cells #[.slice none 0 0, .slice none 0 0, .int .i64 0, .slice none 0 0, .slice none 0 0, .int .i64 0] 62))).frozen? ⟨w2.heap.size, oo, none⟩ = false := fz_new w2 #[.slice none 0 0, .slice none 0 0, .int .i64 0, .slice none 0 0, .slice none 0 0, .int .i64 0] 62 rfl
          generalize (w2.alloc (.cells #[.slice none 0 0, .slice none 0 0, .int .i64 0, .slice none 0 0, .slice none 0 0, .int .i64 0] 62)) = w3 at *
          have hx3 : Ext w2 w3 := Ext.trans (Ext.auto) hyA
          have hs3 := hx3.size
          have he3 : Ext w w3 := he2.trans hx3
          have hBu_3 : Bx w3 (w.heap.size) [(.slice Au1 u.events.length cu1), (.slice Au2 u.regs.length cu2), .int .i64 u.fin, (.slice Au3 u.x.monos.length cu3), (.slice Au4 u.y.monos.length cu4), .int .i64 u.k] := hx3.bx hBu_2 (by omega)
          have hFu_3 : ∀ oo, w3.frozen? ⟨w.heap.size, oo, none⟩ = false := fun oo => (hx3.frozen (by omega)).trans (hFu_2 oo)
          have hBres_3 : Bx w3 (w.heap.size + 1) [.slice none 0 0, .slice none 0 0, .int .i64 0, .slice none 0 0, .slice none 0 0, .int .i64 0] := hx3.bx hBres_2 (by omega)
          have hFres_3 : ∀ oo, w3.frozen? ⟨w.heap.size + 1, oo, none⟩ = false := fun oo => (hx3.frozen (by omega)).trans (hFres_2 oo)
          clear hBu_2 hFu_2 hBres_2 hFres_2
          have hBq_3 := hBA
          have hFq_3 := hFA
          clear hBA hFA hyA
          refine Plan.chain_step rfl (fun K hK => ?_)
          go_simp
          refine (clonePol_any u.y _ _ (hu4.ext (Ext.trans he3 Ext.auto)) (by omega)).mono ?_
          rintro e w4 ⟨r4, F4, rfl, hO4, hF4_, hy⟩
          refine hK.out _ _ (Ext.trans ((Ext.trans (Ext.trans hx1 hx2) hx3).trans Ext.auto) hy) ?_
          clear hK
          (try simp only [Act.put, List.setIfInBounds_toArray, List.set_cons_zero, List.set_cons_succ])
          have hF4 : Fr w3 w4 F4 := hF4_.mk1 (by simp) (Nat.le_refl _)
          clear hF4_
          have hx4 : Ext w3 w4 := Ext.trans (Ext.auto) hy
          have hs4 := hx4.size
          have he4 : Ext w w4 := he3.trans hx4
          have hBu_4 : Bx w4 (w.heap.size) [(.slice Au1 u.events.length cu1), (.slice Au2 u.regs.length cu2), .int .i64 u.fin, (.slice Au3 u.x.monos.length cu3), (.slice Au4 u.y.monos.length cu4), .int .i64 u.k] := hx4.bx hBu_3 (by omega)
          have hFu_4 : ∀ oo, w4.frozen? ⟨w.heap.size, oo, none⟩ = false := fun oo => (hx4.frozen (by omega)).trans (hFu_3 oo)
          have hBres_4 : Bx w4 (w.heap.size + 1) [.slice none 0 0, .slice none 0 0, .int .i64 0, .slice none 0 0, .slice none 0 0, .int .i64 0] := hx4.bx hBres_3 (by omega)
          have hFres_4 : ∀ oo, w4.frozen? ⟨w.heap.size + 1, oo, none⟩ = false := fun oo => (hx4.frozen (by omega)).trans (hFres_3 oo)
          have hBq_4 : Bx w4 (w2.heap.size) [.slice none 0 0, .slice none 0 0, .int .i64 0, .slice none 0 0, .slice none 0 0, .int .i64 0] := hx4.bx hBq_3 (by omega)
          have hFq_4 : ∀ oo, w4.frozen? ⟨w2.heap.size, oo, none⟩ = false := fun oo => (hx4.frozen (by omega)).trans (hFq_3 oo)
          clear hBu_3 hFu_3 hBres_3 hFres_3 hBq_3 hFq_3
          clear hy
          obtain ⟨A4, c4, rfl, -, -⟩ := hO4.sl.form
          (refine Plan.float_step (v := ?_) rfl (by rfl) (fun _ _ _ h => h) (fun w' hSw => ?_) ?_; rotate_left; · (go_simp; try with_reducible rfl)); (try simp only [Act.put, List.setIfInBounds_toArray, List.set_cons_zero, List.set_cons_succ])
          have yq : w2.heap.size < w4.heap.size := by omega
          have xq0 := hBq_4 0 _ rfl
          have xq1 := hBq_4 1 _ rfl
          have xq2 := hBq_4 2 _ rfl
          have xq3 := hBq_4 3 _ rfl
          have xq4 := hBq_4 4 _ rfl
          have xq5 := hBq_4 5 _ rfl
          have fq := hFq_4
          have hcl : Ext w0 w4 := (Ext.trans (Ext.trans (Ext.trans hx1 hx2) hx3) hx4)
          refine Plan.tail_step ?_
          simp only [List.drop_succ_cons, List.drop_zero]
          clear hS
          go_wp2_with fail
          have hFF : Fr w0 w4 (F2 ++ F3 ++ F4) := Fr.mk2 (w := w0) (w' := w4) (Fr.mk2 (w := w0) (w' := w2) hF2 hF3 (by omega) (by omega) (by omega) (by omega) (by omega)) hF4 (by omega) (by omega) (by omega) (by omega) (by omega)
          have hqn : w2.heap.size ∉ F2 ++ F3 ++ F4 := fun hm => by
            rcases List.mem_append.1 hm with hm | hm
            · rcases List.mem_append.1 hm with hm | hm
              · have q := hF2.2 _ hm; have q1 := q.1; have q2 := q.2; omega
              · have q := hF3.2 _ hm; have q1 := q.1; have q2 := q.2; omega
            · have q := hF4.2 _ hm; have q1 := q.1; have q2 := q.2; omega
          go_meet
          exact ⟨w2.heap.size, A2, A3, A4, c2, c3, c4, F2, F3, F4, rfl, Ext.hold hcl, by omega, by first | omega | (simp; omega), (by have := (Bx.put (Bx.put (Bx.put (Bx.put (Bx.put (Bx.put hBq_4 (j := 0) (by simp) (.slice none 0 0)) (j := 1) (by simp) (.slice A2 u.regs.length c2)) (j := 2) (by simp) (.int .i64 u.fin)) (j := 3) (by simp) (.slice A3 u.x.monos.length c3)) (j := 4) (by simp) (.slice A4 u.y.monos.length c4)) (j := 5) (by simp) (.int .i64 u.k)); simpa using this), fz_hold hFq_4, OwnSl.stay (OwnSl.up hO2 hF2 (Ext.trans (Ext.trans hx2 hx3) hx4)) (fun z hz => by
              have q := hF2.2 z hz; have q1 := q.1; have q2 := q.2
              repeat (first | rw [heap_set _ _ _ _ (by show _ ≠ z; omega)] | rw [heap_set _ _ _ _ (by simp; omega)])), OwnSl.stay (OwnSl.up hO3 hF3 (Ext.trans hx3 hx4)) (fun z hz => by
              have q := hF3.2 z hz; have q1 := q.1; have q2 := q.2
              repeat (first | rw [heap_set _ _ _ _ (by show _ ≠ z; omega)] | rw [heap_set _ _ _ _ (by simp; omega)])), OwnSl.stay (OwnSl.up hO4 hF4 (Ext.refl _)) (fun z hz => by
              have q := hF4.2 z hz; have q1 := q.1; have q2 := q.2
              repeat (first | rw [heap_set _ _ _ _ (by show _ ≠ z; omega)] | rw [heap_set _ _ _ _ (by simp; omega)])), hFF.mk1 (Nat.le_refl _) (by simp), hqn⟩
      · 
        refine Plan.chain_step rfl (fun K hK => ?_)
        go_simp
        refine hK.out _ _ (Ext.trans hx1 (show Ext w1 (w1.alloc (.cells #[.slice none 0 0, .slice none 0 0, .int .i64 0, .slice none 0 0, .slice none 0 0, .int .i64 0] 62)) from Ext.auto)) ?_
        clear hK
        (try simp only [Act.put, List.setIfInBounds_toArray, List.set_cons_zero, List.set_cons_succ])
        have hyA : Ext w1 (w1.alloc (.cells #[.slice none 0 0, .slice none 0 0, .int .i64 0, .slice none 0 0, .slice none 0 0, .int .i64 0] 62)) := Ext.auto
        have hsA : w1.heap.size < ((w1.alloc (.cells #[.slice none 0 0, .slice none 0 0, .int .i64 0, .slice none 0 0, .slice none 0 0, .int .i64 0] 62))).heap.size := by simp
        have hBA : Bx ((w1.alloc (.cells #[.slice none 0 0, .slice none 0 0, .int .i64 0, .slice none 0 0, .slice none 0 0, .int .i64 0] 62))) w1.heap.size [.slice none 0 0, .slice none 0 0, .int .i64 0, .slice none 0 0, .slice none 0 0, .int .i64 0] := Bx.new w1 #[.slice none 0 0, .slice none 0 0, .int .i64 0, .slice none 0 0, .slice none 0 0, .int .i64 0] 62
        have hFA : ∀ oo, ((w1.alloc (.cells #[.slice none 0 0, .slice none 0 0, .int .i64 0, .slice none 0 0, .slice none 0 0, .int .i64 0] 62))).frozen? ⟨w1.heap.size, oo, none⟩ = false := fz_new w1 #[.slice none 0 0, .slice none 0 0, .int .i64 0, .slice none 0 0, .slice none 0 0, .int .i64 0] 62 rfl
        generalize (w1.alloc (.cells #[.slice none 0 0, .slice none 0 0, .int .i64 0, .slice none 0 0, .slice none 0 0, .int .i64 0] 62)) = w2 at *
        have hx2 : Ext w1 w2 := Ext.trans (Ext.auto) hyA
        have hs2 := hx2.size
        have he2 : Ext w w2 := he1.trans hx2
        have hBu_2 : Bx w2 (w.heap.size) [(.slice Au1 u.events.length cu1), (.slice Au2 u.regs.length cu2), .int .i64 u.fin, (.slice Au3 u.x.monos.length cu3), (.slice Au4 u.y.monos.length cu4), .int .i64 u.k] := hx2.bx hBu_1 (by omega)
        have hFu_2 : ∀ oo, w2.frozen? ⟨w.heap.size, oo, none⟩ = false := fun oo => (hx2.frozen (by omega)).trans (hFu_1 oo)
        have hBres_2 : Bx w2 (w.heap.size + 1) [.slice none 0 0, .slice none 0 0, .int .i64 0, .slice none 0 0, .slice none 0 0, .int .i64 0] := hx2.bx hBres_1 (by omega)
        have hFres_2 : ∀ oo, w2.frozen? ⟨w.heap.size + 1, oo, none⟩ = false := fun oo => (hx2.frozen (by omega)).trans (hFres_1 oo)
        clear hBu_1 hFu_1 hBres_1 hFres_1
        have hBq_2 := hBA
        have hFq_2 := hFA
        clear hBA hFA hyA
        refine Plan.chain_step rfl (fun K hK => ?_)
        go_simp
        refine (clonePol_any u.x _ _ (hu3.ext (Ext.trans he2 Ext.auto)) (by omega)).mono ?_
        rintro e w3 ⟨r3, F3, rfl, hO3, hF3_, hy⟩
        refine hK.out _ _ (Ext.trans ((Ext.trans hx1 hx2).trans Ext.auto) hy) ?_
        clear hK
        (try simp only [Act.put, List.setIfInBounds_toArray, List.set_cons_zero, List.set_cons_succ])
        have hF3 : Fr w2 w3 F3 := hF3_.mk1 (by simp) (Nat.le_refl _)
        clear hF3_
        have hx3 : Ext w2 w3 := Ext.trans (Ext.auto) hy
        have hs3 := hx3.size
        have he3 : Ext w w3 := he2.trans hx3
        have hBu_3 : Bx w3 (w.heap.size) [(.slice Au1 u.events.length cu1), (.slice Au2 u.regs.length cu2), .int .i64 u.fin, (.slice Au3 u.x.monos.length cu3), (.slice Au4 u.y.monos.length cu4), .int .i64 u.k] := hx3.bx hBu_2 (by omega)
        have hFu_3 : ∀ oo, w3.frozen? ⟨w.heap.size, oo, none⟩ = false := fun oo => (hx3.frozen (by omega)).trans (hFu_2 oo)
        have hBres_3 : Bx w3 (w.heap.size + 1) [.slice none 0 0, .slice none 0 0, .int .i64 0, .slice none 0 0, .slice none 0 0, .int .i64 0] := hx3.bx hBres_2 (by omega)
        have hFres_3 : ∀ oo, w3.frozen? ⟨w.heap.size + 1, oo, none⟩ = false := fun oo => (hx3.frozen (by omega)).trans (hFres_2 oo)
        have hBq_3 : Bx w3 (w1.heap.size) [.slice none 0 0, .slice none 0 0, .int .i64 0, .slice none 0 0, .slice none 0 0, .int .i64 0] := hx3.bx hBq_2 (by omega)
        have hFq_3 : ∀ oo, w3.frozen? ⟨w1.heap.size, oo, none⟩ = false := fun oo => (hx3.frozen (by omega)).trans (hFq_2 oo)
        clear hBu_2 hFu_2 hBres_2 hFres_2 hBq_2 hFq_2
        clear hy
        obtain ⟨A3, c3, rfl, -, -⟩ := hO3.sl.form
        refine Plan.chain_step rfl (fun K hK => ?_)
        go_simp
        refine (clonePol_any u.y _ _ (hu4.ext (Ext.trans he3 Ext.auto)) (by omega)).mono ?_
        rintro e w4 ⟨r4, F4, rfl, hO4, hF4_, hy⟩
        refine hK.out _ _ (Ext.trans ((Ext.trans (Ext.trans hx1 hx2) hx3).trans Ext.auto) hy) ?_
        clear hK
        (try simp only [Act.put, List.setIfInBounds_toArray, List.set_cons_zero, List.set_cons_succ])
        have hF4 : Fr w3 w4 F4 := hF4_.mk1 (by simp) (Nat.le_refl _)
        clear hF4_
        have hx4 : Ext w3 w4 := Ext.trans (Ext.auto) hy
        have hs4 := hx4.size
        have he4 : Ext w w4 := he3.trans hx4
        have hBu_4 : Bx w4 (w.heap.size) [(.slice Au1 u.events.length cu1), (.slice Au2 u.regs.length cu2), .int .i64 u.fin, (.slice Au3 u.x.monos.length cu3), (.slice Au4 u.y.monos.length cu4), .int .i64 u.k] := hx4.bx hBu_3 (by omega)
        have hFu_4 : ∀ oo, w4.frozen? ⟨w.heap.size, oo, none⟩ = false := fun oo => (hx4.frozen (by omega)).trans (hFu_3 oo)
        have hBres_4 : Bx w4 (w.heap.size + 1) [.slice none 0 0, .slice none 0 0, .int .i64 0, .slice none 0 0, .slice none 0 0, .int .i64 0] := hx4.bx hBres_3 (by omega)
        have hFres_4 : ∀ oo, w4.frozen? ⟨w.heap.size + 1, oo, none⟩ = false := fun oo => (hx4.frozen (by omega)).trans (hFres_3 oo)
        have hBq_4 : Bx w4 (w1.heap.size) [.slice none 0 0, .slice none 0 0, .int .i64 0, .slice none 0 0, .slice none 0 0, .int .i64 0] := hx4.bx hBq_3 (by omega)
        have hFq_4 : ∀ oo, w4.frozen? ⟨w1.heap.size, oo, none⟩ = false := fun oo => (hx4.frozen (by omega)).trans (hFq_3 oo)
        clear hBu_3 hFu_3 hBres_3 hFres_3 hBq_3 hFq_3
        clear hy
        obtain ⟨A4, c4, rfl, -, -⟩ := hO4.sl.form
        (refine Plan.float_step (v := ?_) rfl (by rfl) (fun _ _ _ h => h) (fun w' hSw => ?_) ?_; rotate_left; · (go_simp; try with_reducible rfl)); (try simp only [Act.put, List.setIfInBounds_toArray, List.set_cons_zero, List.set_cons_succ])
        have yq : w1.heap.size < w4.heap.size := by omega
        have xq0 := hBq_4 0 _ rfl
        have xq1 := hBq_4 1 _ rfl
        have xq2 := hBq_4 2 _ rfl
        have xq3 := hBq_4 3 _ rfl
        have xq4 := hBq_4 4 _ rfl
        have xq5 := hBq_4 5 _ rfl
        have fq := hFq_4
        have hcl : Ext w0 w4 := (Ext.trans (Ext.trans (Ext.trans hx1 hx2) hx3) hx4)
        refine Plan.tail_step ?_
        simp only [List.drop_succ_cons, List.drop_zero]
        clear hS
        go_wp2_with fail
        have hFF : Fr w0 w4 (F2 ++ F3 ++ F4) := Fr.mk2 (w := w0) (w' := w4) (Fr.mk2 (w := w0) (w' := w3) hF2 hF3 (by omega) (by omega) (by omega) (by omega) (by omega)) hF4 (by omega) (by omega) (by omega) (by omega) (by omega)
        have hqn : w1.heap.size ∉ F2 ++ F3 ++ F4 := fun hm => by
          rcases List.mem_append.1 hm with hm | hm
          · rcases List.mem_append.1 hm with hm | hm
            · have q := hF2.2 _ hm; have q1 := q.1; have q2 := q.2; omega
            · have q := hF3.2 _ hm; have q1 := q.1; have q2 := q.2; omega
          · have q := hF4.2 _ hm; have q1 := q.1; have q2 := q.2; omega
        go_meet
        exact ⟨w1.heap.size, A2, A3, A4, c2, c3, c4, F2, F3, F4, rfl, Ext.hold hcl, by omega, by first | omega | (simp; omega), (by have := (Bx.put (Bx.put (Bx.put (Bx.put (Bx.put (Bx.put hBq_4 (j := 0) (by simp) (.slice none 0 0)) (j := 1) (by simp) (.slice A2 u.regs.length c2)) (j := 2) (by simp) (.int .i64 u.fin)) (j := 3) (by simp) (.slice A3 u.x.monos.length c3)) (j := 4) (by simp) (.slice A4 u.y.monos.length c4)) (j := 5) (by simp) (.int .i64 u.k)); simpa using this), fz_hold hFq_4, OwnSl.stay (OwnSl.up hO2 hF2 (Ext.trans (Ext.trans hx2 hx3) hx4)) (fun z hz => by
            have q := hF2.2 z hz; have q1 := q.1; have q2 := q.2
            repeat (first | rw [heap_set _ _ _ _ (by show _ ≠ z; omega)] | rw [heap_set _ _ _ _ (by simp; omega)])), OwnSl.stay (OwnSl.up hO3 hF3 hx4) (fun z hz => by
            have q := hF3.2 z hz; have q1 := q.1; have q2 := q.2
            repeat (first | rw [heap_set _ _ _ _ (by show _ ≠ z; omega)] | rw [heap_set _ _ _ _ (by simp; omega)])), OwnSl.stay (OwnSl.up hO4 hF4 (Ext.refl _)) (fun z hz => by
            have q := hF4.2 z hz; have q1 := q.1; have q2 := q.2
            repeat (first | rw [heap_set _ _ _ _ (by show _ ≠ z; omega)] | rw [heap_set _ _ _ _ (by simp; omega)])), hFF.mk1 (Nat.le_refl _) (by simp), hqn⟩
    · 
      refine Plan.chain_step rfl (fun K hK => ?_)
      go_simp
      refine hK.out _ _ (Ext.trans (Ext.refl _) (show Ext w0 (w0.alloc (.cells #[.slice none 0 0, .slice none 0 0, .int .i64 0, .slice none 0 0, .slice none 0 0, .int .i64 0] 62)).drew from Ext.auto)) ?_
      clear hK
      (try simp only [Act.put, List.setIfInBounds_toArray, List.set_cons_zero, List.set_cons_succ])
      have hyA : Ext w0 (w0.alloc (.cells #[.slice none 0 0, .slice none 0 0, .int .i64 0, .slice none 0 0, .slice none 0 0, .int .i64 0] 62)).drew := Ext.auto
      have hsA : w0.heap.size < ((w0.alloc (.cells #[.slice none 0 0, .slice none 0 0, .int .i64 0, .slice none 0 0, .slice none 0 0, .int .i64 0] 62)).drew).heap.size := by simp
      have hBA : Bx ((w0.alloc (.cells #[.slice none 0 0, .slice none 0 0, .int .i64 0, .slice none 0 0, .slice none 0 0, .int .i64 0] 62)).drew) w0.heap.size [.slice none 0 0, .slice none 0 0, .int .i64 0, .slice none 0 0, .slice none 0 0, .int .i64 0] := Bx.new w0 #[.slice none 0 0, .slice none 0 0, .int .i64 0, .slice none 0 0, .slice none 0 0, .int .i64 0] 62
      have hFA : ∀ oo, ((w0.alloc (.cells #[.slice none 0 0, .slice none 0 0, .int .i64 0, .slice none 0 0, .slice none 0 0, .int .i64 0] 62)).drew).frozen? ⟨w0.heap.size, oo, none⟩ = false := fz_new w0 #[.slice none 0 0, .slice none 0 0, .int .i64 0, .slice none 0 0, .slice none 0 0, .int .i64 0] 62 rfl
      generalize (w0.alloc (.cells #[.slice none 0 0, .slice none 0 0, .int .i64 0, .slice none 0 0, .slice none 0 0, .int .i64 0] 62)).drew = w1 at *
      have hx1 : Ext w0 w1 := Ext.trans (Ext.auto) hyA
      have hs1 := hx1.size
      have he1 : Ext w w1 := he0.trans hx1
      have hBu_1 : Bx w1 (w.heap.size) [(.slice Au1 u.events.length cu1), (.slice Au2 u.regs.length cu2), .int .i64 u.fin, (.slice Au3 u.x.monos.length cu3), (.slice Au4 u.y.monos.length cu4), .int .i64 u.k] := hx1.bx hBu_0 (by omega)
      have hFu_1 : ∀ oo, w1.frozen? ⟨w.heap.size, oo, none⟩ = false := fun oo => (hx1.frozen (by omega)).trans (hFu_0 oo)
      have hBres_1 : Bx w1 (w.heap.size + 1) [.slice none 0 0, .slice none 0 0, .int .i64 0, .slice none 0 0, .slice none 0 0, .int .i64 0] := hx1.bx hBres_0 (by omega)
      have hFres_1 : ∀ oo, w1.frozen? ⟨w.heap.size + 1, oo, none⟩ = false := fun oo => (hx1.frozen (by omega)).trans (hFres_0 oo)
      clear hBu_0 hFu_0 hBres_0 hFres_0
      have hBq_1 := hBA
      have hFq_1 := hFA
      clear hBA hFA hyA
      refine Plan.chain_step rfl (fun K hK => ?_)
      go_simp
      refine (clonePolys_any u.regs _ _ (hu2.ext (Ext.trans he1 Ext.auto)) (by omega)).mono ?_
      rintro e w2 ⟨r2, F2, rfl, hO2, hF2_, hy⟩
      refine hK.out _ _ (Ext.trans (hx1.trans Ext.auto) hy) ?_
      clear hK
      (try simp only [Act.put, List.setIfInBounds_toArray, List.set_cons_zero, List.set_cons_succ])
      have hF2 : Fr w1 w2 F2 := hF2_.mk1 (by simp) (Nat.le_refl _)
      clear hF2_
      have hx2 : Ext w1 w2 := Ext.trans (Ext.auto) hy
      have hs2 := hx2.size
      have he2 : Ext w w2 := he1.trans hx2
      have hBu_2 : Bx w2 (w.heap.size) [(.slice Au1 u.events.length cu1), (.slice Au2 u.regs.length cu2), .int .i64 u.fin, (.slice Au3 u.x.monos.length cu3), (.slice Au4 u.y.monos.length cu4), .int .i64 u.k] := hx2.bx hBu_1 (by omega)
      have hFu_2 : ∀ oo, w2.frozen? ⟨w.heap.size, oo, none⟩ = false := fun oo => (hx2.frozen (by omega)).trans (hFu_1 oo)
      have hBres_2 : Bx w2 (w.heap.size + 1) [.slice none 0 0, .slice none 0 0, .int .i64 0, .slice none 0 0, .slice none 0 0, .int .i64 0] := hx2.bx hBres_1 (by omega)
      have hFres_2 : ∀ oo, w2.frozen? ⟨w.heap.size + 1, oo, none⟩ = false := fun oo => (hx2.frozen (by omega)).trans (hFres_1 oo)
      have hBq_2 : Bx w2 (w0.heap.size) [.slice none 0 0, .slice none 0 0, .int .i64 0, .slice none 0 0, .slice none 0 0, .int .i64 0] := hx2.bx hBq_1 (by omega)
      have hFq_2 : ∀ oo, w2.frozen? ⟨w0.heap.size, oo, none⟩ = false := fun oo => (hx2.frozen (by omega)).trans (hFq_1 oo)
      clear hBu_1 hFu_1 hBres_1 hFres_1 hBq_1 hFq_1
      clear hy
      obtain ⟨A2, c2, rfl, -, -⟩ := hO2.sl.form
      refine Plan.chain_step rfl (fun K hK => ?_)
      go_simp
      refine (clonePol_any u.x _ _ (hu3.ext (Ext.trans he2 Ext.auto)) (by omega)).mono ?_
      rintro e w3 ⟨r3, F3, rfl, hO3, hF3_, hy⟩
      refine hK.out _ _ (Ext.trans ((Ext.trans hx1 hx2).trans Ext.auto) hy) ?_
      clear hK
      (try simp only [Act.put, List.setIfInBounds_toArray, List.set_cons_zero, List.set_cons_succ])
      have hF3 : Fr w2 w3 F3 := hF3_.mk1 (by simp) (Nat.le_refl _)
      clear hF3_
      have hx3 : Ext w2 w3 := Ext.trans (Ext.auto) hy
      have hs3 := hx3.size
      have he3 : Ext w w3 := he2.trans hx3
      have hBu_3 : Bx w3 (w.heap.size) [(.slice Au1 u.events.length cu1), (.slice Au2 u.regs.length cu2), .int .i64 u.fin, (.slice Au3 u.x.monos.length cu3), (.slice Au4 u.y.monos.length cu4), .int .i64 u.k] := hx3.bx hBu_2 (by omega)
      have hFu_3 : ∀ oo, w3.frozen? ⟨w.heap.size, oo, none⟩ = false := fun oo => (hx3.frozen (by omega)).trans (hFu_2 oo)
      have hBres_3 : Bx w3 (w.heap.size + 1) [.slice none 0 0, .slice none 0 0, .int .i64 0, .slice none 0 0, .slice none 0 0, .int .i64 0] := hx3.bx hBres_2 (by omega)
      have hFres_3 : ∀ oo, w3.frozen? ⟨w.heap.size + 1, oo, none⟩ = false := fun oo => (hx3.frozen (by omega)).trans (hFres_2 oo)
      have hBq_3 : Bx w3 (w0.heap.size) [.slice none 0 0, .slice none 0 0, .int .i64 0, .slice none 0 0, .slice none 0 0, .int .i64 0] := hx3.bx hBq_2 (by omega)
      have hFq_3 : ∀ oo, w3.frozen? ⟨w0.heap.size, oo, none⟩ = false := fun oo => (hx3.frozen (by omega)).trans (hFq_2 oo)
      clear hBu_2 hFu_2 hBres_2 hFres_2 hBq_2 hFq_2
      clear hy
      obtain ⟨A3, c3, rfl, -, -⟩ := hO3.sl.form
      refine Plan.chain_step rfl (fun K hK => ?_)
      go_simp
      refine (clonePol_any u.y _ _ (hu4.ext (Ext.trans he3 Ext.auto)) (by omega)).mono ?_
      rintro e w4 ⟨r4, F4, rfl, hO4, hF4_, hy⟩
      refine hK.out _ _ (Ext.trans ((Ext.trans (Ext.trans hx1 hx2) hx3).trans Ext.auto) hy) ?_
      clear hK
      (try simp only [Act.put, List.setIfInBounds_toArray, List.set_cons_zero, List.set_cons_succ])
      have hF4 : Fr w3 w4 F4 := hF4_.mk1 (by simp) (Nat.le_refl _)
      clear hF4_
      have hx4 : Ext w3 w4 := Ext.trans (Ext.auto) hy
      have hs4 := hx4.size
      have he4 : Ext w w4 := he3.trans hx4
      have hBu_4 : Bx w4 (w.heap.size) [(.slice Au1 u.events.length cu1), (.slice Au2 u.regs.length cu2), .int .i64 u.fin, (.slice Au3 u.x.monos.length cu3), (.slice Au4 u.y.monos.length cu4), .int .i64 u.k] := hx4.bx hBu_3 (by omega)
      have hFu_4 : ∀ oo, w4.frozen? ⟨w.heap.size, oo, none⟩ = false := fun oo => (hx4.frozen (by omega)).trans (hFu_3 oo)
      have hBres_4 : Bx w4 (w.heap.size + 1) [.slice none 0 0, .slice none 0 0, .int .i64 0, .slice none 0 0, .slice none 0 0, .int .i64 0] := hx4.bx hBres_3 (by omega)
      have hFres_4 : ∀ oo, w4.frozen? ⟨w.heap.size + 1, oo, none⟩ = false := fun oo => (hx4.frozen (by omega)).trans (hFres_3 oo)
      have hBq_4 : Bx w4 (w0.heap.size) [.slice none 0 0, .slice none 0 0, .int .i64 0, .slice none 0 0, .slice none 0 0, .int .i64 0] := hx4.bx hBq_3 (by omega)
      have hFq_4 : ∀ oo, w4.frozen? ⟨w0.heap.size, oo, none⟩ = false := fun oo => (hx4.frozen (by omega)).trans (hFq_3 oo)
      clear hBu_3 hFu_3 hBres_3 hFres_3 hBq_3 hFq_3
      clear hy
      obtain ⟨A4, c4, rfl, -, -⟩ := hO4.sl.form
      (refine Plan.float_step (v := ?_) rfl (by rfl) (fun _ _ _ h => h) (fun w' hSw => ?_) ?_; rotate_left; · (go_simp; try with_reducible rfl)); (try simp only [Act.put, List.setIfInBounds_toArray, List.set_cons_zero, List.set_cons_succ])
      have yq : w0.heap.size < w4.heap.size := by omega
      have xq0 := hBq_4 0 _ rfl
      have xq1 := hBq_4 1 _ rfl
      have xq2 := hBq_4 2 _ rfl
      have xq3 := hBq_4 3 _ rfl
      have xq4 := hBq_4 4 _ rfl
      have xq5 := hBq_4 5 _ rfl
      have fq := hFq_4
      have hcl : Ext w0 w4 := (Ext.trans (Ext.trans (Ext.trans hx1 hx2) hx3) hx4)
      refine Plan.tail_step ?_
      simp only [List.drop_succ_cons, List.drop_zero]
      clear hS
      go_wp2_with fail
      have hFF : Fr w0 w4 (F2 ++ F3 ++ F4) := Fr.mk2 (w := w0) (w' := w4) (Fr.mk2 (w := w0) (w' := w3) hF2 hF3 (by omega) (by omega) (by omega) (by omega) (by omega)) hF4 (by omega) (by omega) (by omega) (by omega) (by omega)
      have hqn : w0.heap.size ∉ F2 ++ F3 ++ F4 := fun hm => by
        rcases List.mem_append.1 hm with hm | hm
        · rcases List.mem_append.1 hm with hm | hm
          · have q := hF2.2 _ hm; have q1 := q.1; have q2 := q.2; omega
          · have q := hF3.2 _ hm; have q1 := q.1; have q2 := q.2; omega
        · have q := hF4.2 _ hm; have q1 := q.1; have q2 := q.2; omega
      go_meet
      exact ⟨w0.heap.size, A2, A3, A4, c2, c3, c4, F2, F3, F4, rfl, Ext.hold hcl, by omega, by first | omega | (simp; omega), (by have := (Bx.put (Bx.put (Bx.put (Bx.put (Bx.put (Bx.put hBq_4 (j := 0) (by simp) (.slice none 0 0)) (j := 1) (by simp) (.slice A2 u.regs.length c2)) (j := 2) (by simp) (.int .i64 u.fin)) (j := 3) (by simp) (.slice A3 u.x.monos.length c3)) (j := 4) (by simp) (.slice A4 u.y.monos.length c4)) (j := 5) (by simp) (.int .i64 u.k)); simpa using this), fz_hold hFq_4, OwnSl.stay (OwnSl.up hO2 hF2 (Ext.trans hx3 hx4)) (fun z hz => by
          have q := hF2.2 z hz; have q1 := q.1; have q2 := q.2
          repeat (first | rw [heap_set _ _ _ _ (by show _ ≠ z; omega)] | rw [heap_set _ _ _ _ (by simp; omega)])), OwnSl.stay (OwnSl.up hO3 hF3 hx4) (fun z hz => by
          have q := hF3.2 z hz; have q1 := q.1; have q2 := q.2
          repeat (first | rw [heap_set _ _ _ _ (by show _ ≠ z; omega)] | rw [heap_set _ _ _ _ (by simp; omega)])), OwnSl.stay (OwnSl.up hO4 hF4 (Ext.refl _)) (fun z hz => by
          have q := hF4.2 z hz; have q1 := q.1; have q2 := q.2
          repeat (first | rw [heap_set _ _ _ _ (by show _ ≠ z; omega)] | rw [heap_set _ _ _ _ (by simp; omega)])), hFF.mk1 (Nat.le_refl _) (by simp), hqn⟩
  obtain ⟨q, A2, A3, A4, c2, c3, c4, F2, F3, F4, rfl, hy, hq0_, hq1_, hBq_, hFq_, hO2, hO3, hO4, hFF, hqn⟩ := hcut
  obtain ⟨w1, hwc⟩ : ∃ w1 : World, w1 = wc := ⟨_, rfl⟩
  subst hwc
  have hx1 : Ext w0 w1 := Ext.trans (Ext.auto) hy
  have hs1 := hx1.size
  have he1 : Ext w w1 := he0.trans hx1
  have hBu_1 : Bx w1 (w.heap.size) [(.slice Au1 u.events.length cu1), (.slice Au2 u.regs.length cu2), .int .i64 u.fin, (.slice Au3 u.x.monos.length cu3), (.slice Au4 u.y.monos.length cu4), .int .i64 u.k] := hx1.bx hBu_0 (by omega)
  have hFu_1 : ∀ oo, w1.frozen? ⟨w.heap.size, oo, none⟩ = false := fun oo => (hx1.frozen (by omega)).trans (hFu_0 oo)
  have hBres_1 : Bx w1 (w.heap.size + 1) [.slice none 0 0, .slice none 0 0, .int .i64 0, .slice none 0 0, .slice none 0 0, .int .i64 0] := hx1.bx hBres_0 (by omega)
  have hFres_1 : ∀ oo, w1.frozen? ⟨w.heap.size + 1, oo, none⟩ = false := fun oo => (hx1.frozen (by omega)).trans (hFres_0 oo)
  clear hBu_0 hFu_0 hBres_0 hFres_0
  clear hy
  have hBx_1 := hBq_
  have hFx_1 := hFq_
  clear hBq_ hFq_
  have yu : w.heap.size < w1.heap.size := by omega
  have xu0 := hBu_1 0 _ rfl
  have xu1 := hBu_1 1 _ rfl
  have xu2 := hBu_1 2 _ rfl
  have xu3 := hBu_1 3 _ rfl
  have xu4 := hBu_1 4 _ rfl
  have xu5 := hBu_1 5 _ rfl
  go_wp2
  clear xu0 xu1 xu2 xu3 xu4 xu5 yu
  go_loopw [23] (fun i wz => ∃ (k : Nat) (v : Value) (Fs : List (List Nat)) (xs : List Value), k ≤ u.events.length ∧ i = .int .i64 k ∧ App w wz 90 v (u.events.take k) Fs xs ∧ (∀ q, v.ownBlock = some q → w1.heap.size ≤ q) ∧ (∀ z, z ∈ Fs.flatten → w1.heap.size ≤ z) ∧ Ext w wz ∧ w1.heap.size ≤ wz.heap.size ∧ Bx wz (q) [v, .slice A2 u.regs.length c2, .int .i64 u.fin, .slice A3 u.x.monos.length c3, .slice A4 u.y.monos.length c4, .int .i64 u.k] ∧ (∀ oo, wz.frozen? ⟨q, oo, none⟩ = false) ∧ Hid (∀ bb, bb < w1.heap.size → bb ≠ q → wz.heap[bb]? = w1.heap[bb]?) ∧ Bx wz (w.heap.size + 1) [.slice none 0 0, .slice none 0 0, .int .i64 0, .slice none 0 0, .slice none 0 0, .int .i64 0] ∧ (∀ oo, wz.frozen? ⟨w.heap.size + 1, oo, none⟩ = false)) (fun i _ => u.events.length - (intOf i).toNat)
  case atStart => exact ⟨0, _, _, _, by omega, rfl, (App.nil w 90).call he1, fun q hq => by simp [Value.ownBlock] at hq, fun z hz => by simp at hz, he1, Nat.le_refl _, hBx_1, hFx_1, fun _ _ _ => rfl, hBres_1, hFres_1⟩
  case round =>
    obtain ⟨w2, hwr⟩ : ∃ w2 : World, w2 = wr := ⟨_, rfl⟩
    subst hwr
    clear hBu_1 hFu_1 hBres_1 hFres_1 hBx_1 hFx_1
    obtain ⟨k, v, Fs, xs, hk, rfl, hA, hvo, hfo, he2, hs2, hBx_2, hFx_2, HKP, hBres_2, hFres_2⟩ := hrel
    by_cases hlt : k < u.events.length
    · 
      obtain ⟨Lk, hLk⟩ : ∃ Lk, Lk = u.events.take k := ⟨_, rfl⟩
      rw [← hLk] at hA
      have hLkl : Lk.length ≤ k := by rw [hLk]; simp; omega
      have HLk := hide hLk
      clear hLk
      obtain ⟨F7, hO7, -⟩ := hA.done
      obtain ⟨A7, c7, rfl, -, -⟩ := hO7.sl.form
      clear hO7
      obtain ⟨b, off, va1, va2, va3, rfl, hbo, hk0, hva1, hva2, hva3, e0, e1, e2, e3, e4⟩ := at_SymEvent (hu1.ext he2) hlt
      obtain ⟨Av1, cv1, rfl, -, -⟩ := hva1.form
      obtain ⟨Av2, cv2, rfl, -, -⟩ := hva2.form
      obtain ⟨Av3, cv3, rfl, -, -⟩ := hva3.form
      have hbo1 : b < w2.heap.size := hbo
      have z0 : (0 : Int) ≤ (k : Int) := by omega
      have z1 : (k : Int) < (u.events.length : Int) := by omega
      have hbk := blk_el u.events k hlt
      have hba : Bulk.blk u.events[k] = Bulk.blk u.events[k].x.monos + Bulk.blk u.events[k].y.monos + Bulk.blk u.events[k].regs := rfl
      have HT := hide (List.take_succ_eq_append_getElem hlt)
      have hb1_ : Bulk.blk u.events[k].x.monos ≤ 4194304 := by omega
      have hb2_ : Bulk.blk u.events[k].y.monos ≤ 4194304 := by omega
      have hb3_ : Bulk.blk u.events[k].regs ≤ 4194304 := by omega
      clear hba
      go_upto_region 5 with fail
      clear e0 e1 e2 e3 e4
      have he3 : Ext w (w2.alloc (.cells #[.int .i64 u.events[k].kind, .int .i64 u.events[k].at_, .slice Av1 u.events[k].x.monos.length cv1, .slice Av2 u.events[k].y.monos.length cv2, .slice Av3 u.events[k].regs.length cv3] 90)) := Ext.hold he2
      have hx3 : Ext w2 (w2.alloc (.cells #[.int .i64 u.events[k].kind, .int .i64 u.events[k].at_, .slice Av1 u.events[k].x.monos.length cv1, .slice Av2 u.events[k].y.monos.length cv2, .slice Av3 u.events[k].regs.length cv3] 90)) := Ext.auto
      have hs3 : w2.heap.size + 1 ≤ ((w2.alloc (.cells #[.int .i64 u.events[k].kind, .int .i64 u.events[k].at_, .slice Av1 u.events[k].x.monos.length cv1, .slice Av2 u.events[k].y.monos.length cv2, .slice Av3 u.events[k].regs.length cv3] 90))).heap.size := by simp
      have hBx_3 : Bx (w2.alloc (.cells #[.int .i64 u.events[k].kind, .int .i64 u.events[k].at_, .slice Av1 u.events[k].x.monos.length cv1, .slice Av2 u.events[k].y.monos.length cv2, .slice Av3 u.events[k].regs.length cv3] 90)) (q) [.slice A7 Lk.length c7, .slice A2 u.regs.length c2, .int .i64 u.fin, .slice A3 u.x.monos.length c3, .slice A4 u.y.monos.length c4, .int .i64 u.k] := Bx.hold hBx_2
      have hFx_3 : ∀ oo, (w2.alloc (.cells #[.int .i64 u.events[k].kind, .int .i64 u.events[k].at_, .slice Av1 u.events[k].x.monos.length cv1, .slice Av2 u.events[k].y.monos.length cv2, .slice Av3 u.events[k].regs.length cv3] 90)).frozen? ⟨q, oo, none⟩ = false := fz_hold hFx_2
      have hBres_3 : Bx (w2.alloc (.cells #[.int .i64 u.events[k].kind, .int .i64 u.events[k].at_, .slice Av1 u.events[k].x.monos.length cv1, .slice Av2 u.events[k].y.monos.length cv2, .slice Av3 u.events[k].regs.length cv3] 90)) (w.heap.size + 1) [.slice none 0 0, .slice none 0 0, .int .i64 0, .slice none 0 0, .slice none 0 0, .int .i64 0] := Bx.hold hBres_2
      have hFres_3 : ∀ oo, (w2.alloc (.cells #[.int .i64 u.events[k].kind, .int .i64 u.events[k].at_, .slice Av1 u.events[k].x.monos.length cv1, .slice Av2 u.events[k].y.monos.length cv2, .slice Av3 u.events[k].regs.length cv3] 90)).frozen? ⟨w.heap.size + 1, oo, none⟩ = false := fz_hold hFres_2
      have hBe_3 : Bx (w2.alloc (.cells #[.int .i64 u.events[k].kind, .int .i64 u.events[k].at_, .slice Av1 u.events[k].x.monos.length cv1, .slice Av2 u.events[k].y.monos.length cv2, .slice Av3 u.events[k].regs.length cv3] 90)) (w2.heap.size) [.int .i64 u.events[k].kind, .int .i64 u.events[k].at_, .slice Av1 u.events[k].x.monos.length cv1, .slice Av2 u.events[k].y.monos.length cv2, .slice Av3 u.events[k].regs.length cv3] := Bx.new w2 #[.int .i64 u.events[k].kind, .int .i64 u.events[k].at_, .slice Av1 u.events[k].x.monos.length cv1, .slice Av2 u.events[k].y.monos.length cv2, .slice Av3 u.events[k].regs.length cv3] 90
      have hFe_3 : ∀ oo, (w2.alloc (.cells #[.int .i64 u.events[k].kind, .int .i64 u.events[k].at_, .slice Av1 u.events[k].x.monos.length cv1, .slice Av2 u.events[k].y.monos.length cv2, .slice Av3 u.events[k].regs.length cv3] 90)).frozen? ⟨w2.heap.size, oo, none⟩ = false := fz_new w2 #[.int .i64 u.events[k].kind, .int .i64 u.events[k].at_, .slice Av1 u.events[k].x.monos.length cv1, .slice Av2 u.events[k].y.monos.length cv2, .slice Av3 u.events[k].regs.length cv3] 90 rfl
      generalize (w2.alloc (.cells #[.int .i64 u.events[k].kind, .int .i64 u.events[k].at_, .slice Av1 u.events[k].x.monos.length cv1, .slice Av2 u.events[k].y.monos.length cv2, .slice Av3 u.events[k].regs.length cv3] 90)) = w3 at *
      clear hBx_2 hFx_2 hBres_2 hFres_2
      have hv1 := hva1.ext hx3
      have hv2 := hva2.ext hx3
      have hv3 := hva3.ext hx3
      have yx : q < w3.heap.size := by omega
      have xx0 := hBx_3 0 _ rfl
      have xx1 := hBx_3 1 _ rfl
      have xx2 := hBx_3 2 _ rfl
      have xx3 := hBx_3 3 _ rfl
      have xx4 := hBx_3 4 _ rfl
      have xx5 := hBx_3 5 _ rfl
      have ye : w2.heap.size < w3.heap.size := by omega
      have xe0 := hBe_3 0 _ rfl
      have xe1 := hBe_3 1 _ rfl
      have xe2 := hBe_3 2 _ rfl
      have xe3 := hBe_3 3 _ rfl
      have xe4 := hBe_3 4 _ rfl
      have hS : ∀ w', Ext w3 w' → ∀ bb oo, bb < w3.heap.size → w'.cell? ⟨bb, oo, none⟩ = w3.cell? ⟨bb, oo, none⟩ := fun w' hx bb oo hb => hx.cell hb
      refine wp_region_plan (fun w' => Ext w3 w') 17 (.float 0 (.float 1 (.float 2 (.float 3 (.float 4 (.float 5 (.float 6 (.float 7 (.float 9 (.float 10 (.float 12 (.float 13 (.chain 8 (.chain 11 (.chain 14 (.float 15 (.chain 16 (.tail 17)))))))))))))))))) (by kernel_rfl) (by kernel_rfl) (Ext.refl _).drew ?_
      iterate 12 ((refine Plan.float_step (v := ?_) rfl (by rfl) (fun _ _ _ h => h) (fun w' hSw => ?_) ?_; rotate_left; · (go_simp; try with_reducible rfl)); (try simp only [Act.put, List.setIfInBounds_toArray, List.set_cons_zero, List.set_cons_succ]))
      refine Plan.chain_step rfl (fun K hK => ?_)
      go_simp
      refine (clonePol_any u.events[k].x _ _ (hv1.ext Ext.auto) hb1_).mono ?_
      rintro e wq1 ⟨r1, F1, rfl, hO1, hF1_, hy⟩
      have hq1 : Ext w3 wq1 := Ext.trans Ext.auto hy
      have hF1 : Fr w3 wq1 F1 := hF1_.mk1 (by simp) (Nat.le_refl _)
      have hsq1 := hq1.size
      clear hF1_ hy
      obtain ⟨B1, d1, rfl, -, -⟩ := hO1.sl.form
      refine hK.out _ _ hq1 ?_
      clear hK
      (try simp only [Act.put, List.setIfInBounds_toArray, List.set_cons_zero, List.set_cons_succ])
      refine Plan.chain_step rfl (fun K hK => ?_)
      go_simp
      refine (clonePol_any u.events[k].y _ _ (hv2.ext (hq1.trans Ext.auto)) hb2_).mono ?_
      rintro e wq2 ⟨r2, F2, rfl, hO2, hF2_, hy⟩
      have hq2 : Ext wq1 wq2 := Ext.trans Ext.auto hy
      have hF2 : Fr wq1 wq2 F2 := hF2_.mk1 (by simp) (Nat.le_refl _)
      have hsq2 := hq2.size
      clear hF2_ hy
      obtain ⟨B2, d2, rfl, -, -⟩ := hO2.sl.form
      refine hK.out _ _ (hq1.trans hq2) ?_
      clear hK
      (try simp only [Act.put, List.setIfInBounds_toArray, List.set_cons_zero, List.set_cons_succ])
      refine Plan.chain_step rfl (fun K hK => ?_)
      go_simp
      refine (clonePolys_any u.events[k].regs _ _ (hv3.ext ((hq1.trans hq2).trans Ext.auto)) hb3_).mono ?_
      rintro e wq3 ⟨r3, F3, rfl, hO3, hF3_, hy⟩
      have hq3 : Ext wq2 wq3 := Ext.trans Ext.auto hy
      have hF3 : Fr wq2 wq3 F3 := hF3_.mk1 (by simp) (Nat.le_refl _)
      have hsq3 := hq3.size
      clear hF3_ hy
      obtain ⟨B3, d3, rfl, -, -⟩ := hO3.sl.form
      refine hK.out _ _ ((hq1.trans hq2).trans hq3) ?_
      clear hK
      (try simp only [Act.put, List.setIfInBounds_toArray, List.set_cons_zero, List.set_cons_succ])
      (refine Plan.float_step (v := ?_) rfl (by rfl) (fun _ _ _ h => h) (fun w' hSw => ?_) ?_; rotate_left; · (go_simp; try with_reducible rfl)); (try simp only [Act.put, List.setIfInBounds_toArray, List.set_cons_zero, List.set_cons_succ])
      have hxb : Ext w3 wq3 := (hq1.trans hq2).trans hq3
      have hsb := hxb.size
      have hBZ : Bx (wq3.alloc (.cells #[.int .i64 u.events[k].kind, .int .i64 u.events[k].at_, .slice B1 u.events[k].x.monos.length d1, .slice B2 u.events[k].y.monos.length d2, .slice B3 u.events[k].regs.length d3] 90)) (q) [.slice A7 Lk.length c7, .slice A2 u.regs.length c2, .int .i64 u.fin, .slice A3 u.x.monos.length c3, .slice A4 u.y.monos.length c4, .int .i64 u.k] := Bx.alloc (hxb.bx hBx_3 (by omega)) (by omega) _ _
      have hFZ : ∀ oo, (wq3.alloc (.cells #[.int .i64 u.events[k].kind, .int .i64 u.events[k].at_, .slice B1 u.events[k].x.monos.length d1, .slice B2 u.events[k].y.monos.length d2, .slice B3 u.events[k].regs.length d3] 90)).frozen? ⟨q, oo, none⟩ = false := fz_alloc (fun oo => (hxb.frozen (by omega)).trans (hFx_3 oo)) (by omega) _
      have hP1 := OwnSl.up hO1 hF1 (hq2.trans hq3)
      have hP2 := OwnSl.up hO2 hF2 hq3
      have hFF : Fr w3 wq3 (F1 ++ F2 ++ F3) := Fr.mk2 (w := w3) (w' := wq3) (Fr.mk2 (w := w3) (w' := wq2) hF1 hF2 (by omega) (by omega) (by omega) (by omega) (by omega)) hF3 (by omega) (by omega) (by omega) (by omega) (by omega)
      refine Plan.chain_step rfl (fun K hK => ?_)
      go_simp
      refine hK.out _ _ (hxb.alloc _) ?_
      clear hK
      (try simp only [Act.put, List.setIfInBounds_toArray, List.set_cons_zero, List.set_cons_succ])
      refine Plan.tail_step ?_
      simp only [List.drop_succ_cons, List.drop_zero]
      clear hS
      refine wpList_append_push2 (w0 := w) (wr := w2) rfl _ _ 60 rfl i0a _ 88 Try.underlying60 HIa.out HZ0a.out HZ1a.out HZ2a.out rfl (by decide) hA rfl (u.events[k]) #[.int .i64 u.events[k].kind, .int .i64 u.events[k].at_, .slice B1 u.events[k].x.monos.length d1, .slice B2 u.events[k].y.monos.length d2, .slice B3 u.events[k].regs.length d3] 90 ((F1 ++ F2 ++ F3)) _ rfl (hx3.trans hxb) ⟨_, _, _, F1, F2, F3, rfl, hk0, hP1, hP2, hO3, rfl⟩ (hFF.down hx3) (by repeat (first | (exact fun _ h => absurd h (List.not_mem_nil)) | (refine List.forall_mem_cons.2 ⟨rfl, ?_⟩))) (by unfold maxLen; omega) (by omega) ?_
      intro v' wq9 xs' hA9 hg9 hb9
      have hz9 := hg9.size
      have hne9 : some (q) ≠ (Value.ownBlock (.slice A7 Lk.length c7)) := fun q => by have := hvo _ q.symm; omega
      have hBx9 := (show Bx (wq3.alloc (.cells #[.int .i64 u.events[k].kind, .int .i64 u.events[k].at_, .slice B1 u.events[k].x.monos.length d1, .slice B2 u.events[k].y.monos.length d2, .slice B3 u.events[k].regs.length d3] 90)) (q) [.slice A7 Lk.length c7, .slice A2 u.regs.length c2, .int .i64 u.fin, .slice A3 u.x.monos.length c3, .slice A4 u.y.monos.length c4, .int .i64 u.k] from hBZ).grown hg9 (by simp; omega) hne9
      have hFx9 := fz_grown (show ∀ oo, (wq3.alloc (.cells #[.int .i64 u.events[k].kind, .int .i64 u.events[k].at_, .slice B1 u.events[k].x.monos.length d1, .slice B2 u.events[k].y.monos.length d2, .slice B3 u.events[k].regs.length d3] 90)).frozen? ⟨q, oo, none⟩ = false from hFZ) hg9 (by simp; omega) hne9
      have yz9 : q < wq9.heap.size := by simp at hz9; omega
      have xz0 := hBx9 0 _ rfl
      have xz1 := hBx9 1 _ rfl
      have xz2 := hBx9 2 _ rfl
      have xz3 := hBx9 3 _ rfl
      have xz4 := hBx9 4 _ rfl
      have xz5 := hBx9 5 _ rfl
      have hvo9 : ∀ q, v'.ownBlock = some q → w1.heap.size ≤ q := fun q hq => by
        rcases hb9 with hb | hb
        · exact hvo q (hb ▸ hq)
        · rw [hb] at hq; injection hq with hq; simp at hq; omega
      obtain ⟨L9, hL9⟩ : ∃ L9, L9 = Lk ++ [u.events[k]] := ⟨_, rfl⟩
      rw [← hL9] at hA9
      have HL9 := hide hL9
      clear hL9
      obtain ⟨F9, hO9, -⟩ := hA9.done
      obtain ⟨A9, c9, rfl, -, -⟩ := hO9.sl.form
      clear hO9
      have hsz9 : w3.heap.size ≤ wq9.heap.size := by simp at hz9; omega
      go_wp2
      have hfo9 : ∀ z, z ∈ (Fs ++ [F1 ++ F2 ++ F3]).flatten → w1.heap.size ≤ z := fun z hz => by
        rw [List.flatten_append] at hz
        rcases List.mem_append.1 hz with hz | hz
        · exact hfo z hz
        · have := (hFF.2 z (by simpa using hz)).1; omega
      have hA8 := App.set hA9 (p := ⟨q, 0, none⟩) (.slice A9 L9.length c9) (fun q => by have := hvo9 _ q; simp at this; omega) (fun hm => by have := hfo9 _ hm; simp at this; omega) (by simp; omega)
      have hBx8 : Bx (wq9.setCell ⟨q, 0, none⟩ (.slice A9 L9.length c9)) (q) [.slice A9 L9.length c9, .slice A2 u.regs.length c2, .int .i64 u.fin, .slice A3 u.x.monos.length c3, .slice A4 u.y.monos.length c4, .int .i64 u.k] := by have := Bx.put hBx9 (j := 0) (by simp) (.slice A9 L9.length c9); simpa using this
      have hBres_8 : Bx (wq9.setCell ⟨q, 0, none⟩ (.slice A9 L9.length c9)) (w.heap.size + 1) [.slice none 0 0, .slice none 0 0, .int .i64 0, .slice none 0 0, .slice none 0 0, .int .i64 0] := Bx.setCell ((show Bx (wq3.alloc (.cells #[.int .i64 u.events[k].kind, .int .i64 u.events[k].at_, .slice B1 u.events[k].x.monos.length d1, .slice B2 u.events[k].y.monos.length d2, .slice B3 u.events[k].regs.length d3] 90)) _ _ from Bx.alloc (hxb.bx hBres_3 (by omega)) (by omega) _ _).grown hg9 (by simp; omega) (fun q => by have := hvo _ q.symm; omega)) (by simp; omega) _
      have hFres_8 : ∀ oo, (wq9.setCell ⟨q, 0, none⟩ (.slice A9 L9.length c9)).frozen? ⟨w.heap.size + 1, oo, none⟩ = false := fz_set (fz_grown (show ∀ oo, (wq3.alloc (.cells #[.int .i64 u.events[k].kind, .int .i64 u.events[k].at_, .slice B1 u.events[k].x.monos.length d1, .slice B2 u.events[k].y.monos.length d2, .slice B3 u.events[k].regs.length d3] 90)).frozen? ⟨w.heap.size + 1, oo, none⟩ = false from fz_alloc (fun oo => (hxb.frozen (by omega)).trans (hFres_3 oo)) (by omega) _) hg9 (by simp; omega) (fun q => by have := hvo _ q.symm; omega)) _ _
      have HKP8 := hide (show ∀ bb, bb < w1.heap.size → bb ≠ q → (wq9.setCell ⟨q, 0, none⟩ (.slice A9 L9.length c9)).heap[bb]? = w1.heap[bb]? from fun bb hb hne => by
        rw [heap_set _ _ _ _ (fun e => hne e.symm), hg9.block bb (by simp; omega) (fun q => by have := hvo _ q.symm; omega), heap_alloc_old _ _ (by omega), hxb.heap (by omega), hx3.heap (by omega)]
        exact HKP.out bb hb hne)
      go_roundw
      case rel => exact ⟨k + 1, _, _, _, by omega, by go_num, by rw [HT.out, ← HLk.out, ← HL9.out]; exact hA8, hvo9, hfo9, hA8.ext, by simp; omega, hBx8, fz_set hFx9 _ _, HKP8, hBres_8, hFres_8⟩
      case measure => simp [intOf]; omega
    · 
      obtain rfl : k = u.events.length := by omega
      rw [List.take_length] at hA
      obtain ⟨F1, hO1, hF1, hlo1⟩ := App.doneLo hA hvo hfo
      obtain ⟨A1, c1, rfl, -, -⟩ := hO1.sl.form
      have hQ2 : OwnSl w2 (.slice A2 u.regs.length c2) _ F2 := OwnSl.stay hO2 (fun z hz => HKP.out z (hFF.2 z (by simp [hz])).2 (fun e => hqn (by rw [← e]; simp [hz])))
      have hQ3 : OwnSl w2 (.slice A3 u.x.monos.length c3) _ F3 := OwnSl.stay hO3 (fun z hz => HKP.out z (hFF.2 z (by simp [hz])).2 (fun e => hqn (by rw [← e]; simp [hz])))
      have hQ4 : OwnSl w2 (.slice A4 u.y.monos.length c4) _ F4 := OwnSl.stay hO4 (fun z hz => HKP.out z (hFF.2 z (by simp [hz])).2 (fun e => hqn (by rw [← e]; simp [hz])))
      have yx : q < w2.heap.size := by omega
      have xx0 := hBx_2 0 _ rfl
      have xx1 := hBx_2 1 _ rfl
      have xx2 := hBx_2 2 _ rfl
      have xx3 := hBx_2 3 _ rfl
      have xx4 := hBx_2 4 _ rfl
      have xx5 := hBx_2 5 _ rfl
      have yres : w.heap.size + 1 < w2.heap.size := by omega
      have xres0 := hBres_2 0 _ rfl
      have xres1 := hBres_2 1 _ rfl
      have xres2 := hBres_2 2 _ rfl
      have xres3 := hBres_2 3 _ rfl
      have xres4 := hBres_2 4 _ rfl
      have xres5 := hBres_2 5 _ rfl
      have fres := hFres_2
      go_wp2
      refine bodyPost_ret (v := .agg #[.slice A1 u.events.length c1, .slice A2 u.regs.length c2, .int .i64 u.fin, .slice A3 u.x.monos.length c3, .slice A4 u.y.monos.length c4, .int .i64 u.k]) (by simp [results, Try.results59, go_sem, xres0, xres1, xres2, xres3, xres4, xres5]) rfl ⟨_, _, _, _, F1, F2, F3, F4, rfl, ?_, ?_, ?_, ?_, ?_, Ext.hold he2⟩
      · exact OwnSl.stay hO1 (fun z hz => by
          have q0 : w0.heap.size ≤ z := by have := hlo1 z hz; omega
          repeat (first | rw [heap_set _ _ _ _ (by show _ ≠ z; omega)] | rw [heap_set _ _ _ _ (by simp; omega)]))
      · exact OwnSl.stay hQ2 (fun z hz => by
          have q0 : w0.heap.size ≤ z := by exact (hFF.2 z (by simp [hz])).1
          repeat (first | rw [heap_set _ _ _ _ (by show _ ≠ z; omega)] | rw [heap_set _ _ _ _ (by simp; omega)]))
      · exact OwnSl.stay hQ3 (fun z hz => by
          have q0 : w0.heap.size ≤ z := by exact (hFF.2 z (by simp [hz])).1
          repeat (first | rw [heap_set _ _ _ _ (by show _ ≠ z; omega)] | rw [heap_set _ _ _ _ (by simp; omega)]))
      · exact OwnSl.stay hQ4 (fun z hz => by
          have q0 : w0.heap.size ≤ z := by exact (hFF.2 z (by simp [hz])).1
          repeat (first | rw [heap_set _ _ _ _ (by show _ ≠ z; omega)] | rw [heap_set _ _ _ _ (by simp; omega)]))
      · have hsz : (w2).heap.size ≤ _ := Nat.le_refl _
        refine ⟨?_, fun z hz => ?_⟩
        · have h1 := hF1.1
          have h2 := hFF.1
          rw [List.append_assoc, List.append_assoc]
          rw [List.append_assoc] at h2
          refine List.nodup_append.2 ⟨h1, h2, fun a ha b hb e => ?_⟩
          have q1 := hlo1 a ha
          have q2 := (hFF.2 b (by rw [List.append_assoc]; exact hb)).2
          omega
        · have q0 : w.heap.size ≤ z ∧ z < w2.heap.size := by
            rw [List.append_assoc, List.append_assoc] at hz
            rcases List.mem_append.1 hz with hz | hz
            · exact hF1.2 z hz
            · have q := hFF.2 z (by rw [List.append_assoc]; exact hz); have q1 := q.1; have q2 := q.2; exact ⟨by omega, by omega⟩
          exact ⟨q0.1, by simp; omega⟩

end Go.Proofs.Ytdmbgljkogpmdaa
