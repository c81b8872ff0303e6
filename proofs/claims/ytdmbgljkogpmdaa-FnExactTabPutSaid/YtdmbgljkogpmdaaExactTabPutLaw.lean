/-
  The law FnExactTabPut returns true for every input.
-/
import Derived.Test.YtdmbgljkogpmdaaPutS
import Derived.Test.YtdmbgljkogpmdaaPutI
import Derived.Test.YtdmbgljkogpmdaaTo
import Derived.Test.YtdmbgljkogpmdaaEq
import Derived.Test.YtdmbgljkogpmdaaSz
import Derived.Test.YtdmbgljkogpmdaaMark
import Derived.Test.YtdmbgljkogpmdaaMarkN
import Derived.Test.YtdmbgljkogpmdaaCt
import Derived.Test.YtdmbgljkogpmdaaRegLib
import Derived.Test.YtdmbgljkogpmdaaCertLib
namespace Go.Proofs.Ytdmbgljkogpmdaa
open Go.RowKit

set_option linter.unusedVariables false
set_option linter.unusedSimpArgs false
set_option maxRecDepth 100000

set_option maxHeartbeats 16000000 in
theorem lawExactTabPut_any (t : TabTab) (a : TabAtom) (vt1 va1 va2 : Value) (w : World) (ht1 : Sl w (Old w) vt1 t.atoms) (ha1 : Sl w (Old w) va1 a.x.monos) (ha2 : Sl w (Old w) va2 a.y.monos) (hkt : t.Ok) (hka : a.Ok)  :
    Calls Try.prog 4 #[.agg #[vt1], .agg #[.int .i64 a.kind, .int .i64 a.k, va1, va2]] w fun e w' => e = .returned (.bool true) ∧ Ext w w' := by
  obtain ⟨At1, ct1, rfl, hlt1, hmt1⟩ := ht1.form
  obtain ⟨Aa1, ca1, rfl, hla1, hma1⟩ := ha1.form
  obtain ⟨Aa2, ca2, rfl, hla2, hma2⟩ := ha2.form
  go_enter Try.func4, Try.ntmps4
  go_wp2_with fail
  have he0 : Ext w ((w.alloc (Obj.cells #[(.slice At1 t.atoms.length ct1)] 35)).alloc (Obj.cells #[.int .i64 a.kind, .int .i64 a.k, (.slice Aa1 a.x.monos.length ca1), (.slice Aa2 a.y.monos.length ca2)] 40)) := (Ext.auto)
  have hs0 : w.heap.size + 2 ≤ (((w.alloc (Obj.cells #[(.slice At1 t.atoms.length ct1)] 35)).alloc (Obj.cells #[.int .i64 a.kind, .int .i64 a.k, (.slice Aa1 a.x.monos.length ca1), (.slice Aa2 a.y.monos.length ca2)] 40))).heap.size := by simp
  have hq0 := hide (show (((w.alloc (Obj.cells #[(.slice At1 t.atoms.length ct1)] 35)).alloc (Obj.cells #[.int .i64 a.kind, .int .i64 a.k, (.slice Aa1 a.x.monos.length ca1), (.slice Aa2 a.y.monos.length ca2)] 40))).heap.size = w.heap.size + 2 by simp)
  have hBt_0 : Bx ((w.alloc (Obj.cells #[(.slice At1 t.atoms.length ct1)] 35)).alloc (Obj.cells #[.int .i64 a.kind, .int .i64 a.k, (.slice Aa1 a.x.monos.length ca1), (.slice Aa2 a.y.monos.length ca2)] 40)) (w.heap.size) [(.slice At1 t.atoms.length ct1)] := (by have := (Bx.alloc (Bx.new w #[(.slice At1 t.atoms.length ct1)] 35) (by simp) #[.int .i64 a.kind, .int .i64 a.k, (.slice Aa1 a.x.monos.length ca1), (.slice Aa2 a.y.monos.length ca2)] 40); simpa using this)
  have hFt_0 : ∀ oo, (((w.alloc (Obj.cells #[(.slice At1 t.atoms.length ct1)] 35)).alloc (Obj.cells #[.int .i64 a.kind, .int .i64 a.k, (.slice Aa1 a.x.monos.length ca1), (.slice Aa2 a.y.monos.length ca2)] 40))).frozen? ⟨w.heap.size, oo, none⟩ = false := fun oo => by simp
  have hBa_0 : Bx ((w.alloc (Obj.cells #[(.slice At1 t.atoms.length ct1)] 35)).alloc (Obj.cells #[.int .i64 a.kind, .int .i64 a.k, (.slice Aa1 a.x.monos.length ca1), (.slice Aa2 a.y.monos.length ca2)] 40)) (w.heap.size + 1) [.int .i64 a.kind, .int .i64 a.k, (.slice Aa1 a.x.monos.length ca1), (.slice Aa2 a.y.monos.length ca2)] := (by have := (Bx.new (w.alloc (Obj.cells #[(.slice At1 t.atoms.length ct1)] 35)) #[.int .i64 a.kind, .int .i64 a.k, (.slice Aa1 a.x.monos.length ca1), (.slice Aa2 a.y.monos.length ca2)] 40); simpa using this)
  have hFa_0 : ∀ oo, (((w.alloc (Obj.cells #[(.slice At1 t.atoms.length ct1)] 35)).alloc (Obj.cells #[.int .i64 a.kind, .int .i64 a.k, (.slice Aa1 a.x.monos.length ca1), (.slice Aa2 a.y.monos.length ca2)] 40))).frozen? ⟨w.heap.size + 1, oo, none⟩ = false := fun oo => by simp
  generalize ((w.alloc (Obj.cells #[(.slice At1 t.atoms.length ct1)] 35)).alloc (Obj.cells #[.int .i64 a.kind, .int .i64 a.k, (.slice Aa1 a.x.monos.length ca1), (.slice Aa2 a.y.monos.length ca2)] 40)) = w0 at *
  have yt : w.heap.size < w0.heap.size := by omega
  have xt0 : w0.cell? ⟨w.heap.size, 0, none⟩ = some ((.slice At1 t.atoms.length ct1)) := hBt_0 0 _ rfl
  go_wp2_with fail
  clear xt0 yt
  refine (sz_TabTab t _ 1048576 _ (ht1.ext (Ext.trans he0 (Ext.auto))) (by omega) (by omega)).mono ?_
  rintro e w1 ⟨rzt, rfl, hr, hy⟩
  have hx1 : Ext w0 w1 := Ext.trans (Ext.auto) hy
  have hs1 := hx1.size
  have he1 : Ext w w1 := he0.trans hx1
  have hBt_1 : Bx w1 (w.heap.size) [(.slice At1 t.atoms.length ct1)] := hx1.bx hBt_0 (by omega)
  have hFt_1 : ∀ oo, w1.frozen? ⟨w.heap.size, oo, none⟩ = false := fun oo => (hx1.frozen (by omega)).trans (hFt_0 oo)
  have hBa_1 : Bx w1 (w.heap.size + 1) [.int .i64 a.kind, .int .i64 a.k, (.slice Aa1 a.x.monos.length ca1), (.slice Aa2 a.y.monos.length ca2)] := hx1.bx hBa_0 (by omega)
  have hFa_1 : ∀ oo, w1.frozen? ⟨w.heap.size + 1, oo, none⟩ = false := fun oo => (hx1.frozen (by omega)).trans (hFa_0 oo)
  clear hBt_0 hFt_0 hBa_0 hFa_0
  clear hy
  rcases hr with ⟨hq, hl0⟩ | ⟨hq, hl0⟩
  rotate_left
  · have hz : rzt < 0 := by omega
    clear hq
    go_wp2
    go_ret
    exact ⟨rfl, he1⟩
  have hzt : 0 ≤ rzt := by omega
  have hyt : rzt ≤ 1048576 := by omega
  have nt : Bulk.blk t ≤ 1048576 := by omega
  have mt : ((Bulk.blk t : Nat) : Int) ≤ 1048576 - rzt := by omega
  have HQt := hide hq
  clear hq hl0
  have ya : w.heap.size + 1 < w1.heap.size := by omega
  have xa0 := hBa_1 0 _ rfl
  have xa1 := hBa_1 1 _ rfl
  have xa2 := hBa_1 2 _ rfl
  have xa3 := hBa_1 3 _ rfl
  go_wp2_with fail
  clear xa0 xa1 xa2 xa3 ya
  refine (sz_TabAtom a _ _ rzt _ (ha1.ext (Ext.trans he1 (Ext.auto))) (ha2.ext (Ext.trans he1 (Ext.auto))) (by omega) (by omega)).mono ?_
  rintro e w2 ⟨rza, rfl, hr, hy⟩
  have hx2 : Ext w1 w2 := Ext.trans (Ext.auto) hy
  have hs2 := hx2.size
  have he2 : Ext w w2 := he1.trans hx2
  have hBt_2 : Bx w2 (w.heap.size) [(.slice At1 t.atoms.length ct1)] := hx2.bx hBt_1 (by omega)
  have hFt_2 : ∀ oo, w2.frozen? ⟨w.heap.size, oo, none⟩ = false := fun oo => (hx2.frozen (by omega)).trans (hFt_1 oo)
  have hBa_2 : Bx w2 (w.heap.size + 1) [.int .i64 a.kind, .int .i64 a.k, (.slice Aa1 a.x.monos.length ca1), (.slice Aa2 a.y.monos.length ca2)] := hx2.bx hBa_1 (by omega)
  have hFa_2 : ∀ oo, w2.frozen? ⟨w.heap.size + 1, oo, none⟩ = false := fun oo => (hx2.frozen (by omega)).trans (hFa_1 oo)
  clear hBt_1 hFt_1 hBa_1 hFa_1
  clear hy
  rcases hr with ⟨hq, hl0⟩ | ⟨hq, hl0⟩
  rotate_left
  · have hz : rza < 0 := by omega
    clear hq
    go_wp2
    go_ret
    exact ⟨rfl, he2⟩
  have hza : 0 ≤ rza := by omega
  have hya : rza ≤ 1048576 := by omega
  have na : Bulk.blk a ≤ 1048576 := by omega
  have ma : ((Bulk.blk a : Nat) : Int) ≤ rzt - rza := by omega
  have HQa := hide hq
  clear hq hl0
  go_upto_region 8 with fail
  go_cut [6, 7] (fun vt6 vt7 wx => ∃ (q_w : Nat) (A_w1 : Option Addr) (c_w1 : Nat) (F_w1 : List Nat), vt6 = .pointer (some ⟨q_w, 0, none⟩) ∧ vt7 = .int .i64 (tabPutAt t a) ∧ Ext w2 wx ∧ w2.heap.size ≤ q_w ∧ q_w < wx.heap.size ∧ Bx wx q_w [(.slice A_w1 ((tabPut t a).atoms).length c_w1)] ∧ (∀ oo, wx.frozen? ⟨q_w, oo, none⟩ = false) ∧ OwnSl wx (.slice A_w1 ((tabPut t a).atoms).length c_w1) ((tabPut t a).atoms) F_w1 ∧ Fr w2 wx (F_w1))
  · 
    have yt : w.heap.size < w2.heap.size := by omega
    have xt0 : w2.cell? ⟨w.heap.size, 0, none⟩ = some ((.slice At1 t.atoms.length ct1)) := hBt_2 0 _ rfl
    have ya : w.heap.size + 1 < w2.heap.size := by omega
    have xa0 := hBa_2 0 _ rfl
    have xa1 := hBa_2 1 _ rfl
    have xa2 := hBa_2 2 _ rfl
    have xa3 := hBa_2 3 _ rfl
    have hS : ∀ w', Ext w2 w' → ∀ bb oo, bb < w2.heap.size → w'.cell? ⟨bb, oo, none⟩ = w2.cell? ⟨bb, oo, none⟩ := fun w' hx bb oo hb => hx.cell hb
    refine wp_region_plan (fun w' => Ext w2 w') 10 (.float 0 (.float 2 (.fork 1 8 (.fork 3 8 (.fork 4 8 (.float 5 (.float 6 (.float 7 (.chain 8 (.chain 9 (.tail 10)))))) (.chain 4 (.float 5 (.float 6 (.float 7 (.chain 9 (.tail 10))))))) (.chain 3 (.chain 4 (.float 5 (.float 6 (.float 7 (.chain 9 (.tail 10)))))))) (.chain 1 (.chain 3 (.chain 4 (.float 5 (.float 6 (.float 7 (.chain 9 (.tail 10))))))))))) (by kernel_rfl) (by kernel_rfl) (Ext.refl _).drew ?_
    iterate 2 ((refine Plan.float_step (v := ?_) rfl (by rfl) (fun _ _ _ h => h) (fun w' hSw => ?_) ?_; rotate_left; · (go_simp; try with_reducible rfl)); (try simp only [Act.put, List.setIfInBounds_toArray, List.set_cons_zero, List.set_cons_succ]))
    refine Plan.fork_step ?_ ?_
    · 
      refine Plan.chain_step rfl (fun K hK => ?_)
      go_simp
      refine (to_TabTab t _ _ (ht1.ext (Ext.trans he2 (Ext.auto))) nt).mono ?_
      rintro e w3 ⟨r_pt1, F_pt1, rfl, ho_pt1, hf_pt, hy⟩
      refine hK.out _ _ (Ext.trans (Ext.auto) hy) ?_
      clear hK
      (try simp only [Act.put, List.setIfInBounds_toArray, List.set_cons_zero, List.set_cons_succ])
      have hx3 : Ext w2 w3 := Ext.trans (Ext.auto) hy
      have hs3 := hx3.size
      have he3 : Ext w w3 := he2.trans hx3
      have hBt_3 : Bx w3 (w.heap.size) [(.slice At1 t.atoms.length ct1)] := hx3.bx hBt_2 (by omega)
      have hFt_3 : ∀ oo, w3.frozen? ⟨w.heap.size, oo, none⟩ = false := fun oo => (hx3.frozen (by omega)).trans (hFt_2 oo)
      have hBa_3 : Bx w3 (w.heap.size + 1) [.int .i64 a.kind, .int .i64 a.k, (.slice Aa1 a.x.monos.length ca1), (.slice Aa2 a.y.monos.length ca2)] := hx3.bx hBa_2 (by omega)
      have hFa_3 : ∀ oo, w3.frozen? ⟨w.heap.size + 1, oo, none⟩ = false := fun oo => (hx3.frozen (by omega)).trans (hFa_2 oo)
      clear hBt_2 hFt_2 hBa_2 hFa_2
      clear hy
      obtain ⟨A_pt1, c_pt1, rfl, -, -⟩ := ho_pt1.sl.form
      have fr_pt : Fr w2 w3 (F_pt1) := hf_pt.mk1 (by first | exact Nat.le_refl _ | (simp; done)) (Nat.le_refl _)
      clear hf_pt
      refine Plan.fork_step ?_ ?_
      · 
        refine Plan.chain_step rfl (fun K hK => ?_)
        go_simp
        refine (to_TabAtom a _ _ _ (ha1.ext (Ext.trans he3 (Ext.auto))) (ha2.ext (Ext.trans he3 (Ext.auto))) na).mono ?_
        rintro e w4 ⟨r_pa1, r_pa2, F_pa1, F_pa2, rfl, ho_pa1, ho_pa2, hf_pa, hy⟩
        refine hK.out _ _ (Ext.trans hx3 hy) ?_
        clear hK
        (try simp only [Act.put, List.setIfInBounds_toArray, List.set_cons_zero, List.set_cons_succ])
        have hx4 : Ext w3 w4 := Ext.trans (Ext.auto) hy
        have hs4 := hx4.size
        have he4 : Ext w w4 := he3.trans hx4
        have hBt_4 : Bx w4 (w.heap.size) [(.slice At1 t.atoms.length ct1)] := hx4.bx hBt_3 (by omega)
        have hFt_4 : ∀ oo, w4.frozen? ⟨w.heap.size, oo, none⟩ = false := fun oo => (hx4.frozen (by omega)).trans (hFt_3 oo)
        have hBa_4 : Bx w4 (w.heap.size + 1) [.int .i64 a.kind, .int .i64 a.k, (.slice Aa1 a.x.monos.length ca1), (.slice Aa2 a.y.monos.length ca2)] := hx4.bx hBa_3 (by omega)
        have hFa_4 : ∀ oo, w4.frozen? ⟨w.heap.size + 1, oo, none⟩ = false := fun oo => (hx4.frozen (by omega)).trans (hFa_3 oo)
        clear hBt_3 hFt_3 hBa_3 hFa_3
        clear hy
        obtain ⟨A_pa1, c_pa1, rfl, -, -⟩ := ho_pa1.sl.form
        obtain ⟨A_pa2, c_pa2, rfl, -, -⟩ := ho_pa2.sl.form
        have fr_pa : Fr w3 w4 (F_pa1 ++ F_pa2) := hf_pa.mk1 (by first | exact Nat.le_refl _ | (simp; done)) (Nat.le_refl _)
        clear hf_pa
        refine Plan.fork_step ?_ ?_
        · 
          refine Plan.chain_step rfl (fun K hK => ?_)
          go_simp
          refine (specTabPut_any t a _ _ _ _ ((OwnSl.up ho_pt1 (fr_pt.mk1 (Nat.le_refl _) (by omega)) hx4).old (fr_pt.mk1 (Nat.le_refl _) (by omega))) ((OwnSl.up ho_pa1 (fr_pa.inl.mk1 (Nat.le_refl _) (by omega)) (Ext.refl _)).old (fr_pa.inl.mk1 (Nat.le_refl _) (by omega))) ((OwnSl.up ho_pa2 (fr_pa.inr.mk1 (Nat.le_refl _) (by omega)) (Ext.refl _)).old (fr_pa.inr.mk1 (Nat.le_refl _) (by omega))) hka (by omega) (by omega)).mono ?_
          rintro e w5 ⟨r_w1, F_w1, rfl, ho_w1, hf_w, hy⟩
          refine hK.out _ _ (Ext.trans (Ext.trans hx3 hx4) hy) ?_
          clear hK
          (try simp only [Act.put, List.setIfInBounds_toArray, List.set_cons_zero, List.set_cons_succ])
          have hx5 : Ext w4 w5 := Ext.trans (Ext.auto) hy
          have hs5 := hx5.size
          have he5 : Ext w w5 := he4.trans hx5
          have hBt_5 : Bx w5 (w.heap.size) [(.slice At1 t.atoms.length ct1)] := hx5.bx hBt_4 (by omega)
          have hFt_5 : ∀ oo, w5.frozen? ⟨w.heap.size, oo, none⟩ = false := fun oo => (hx5.frozen (by omega)).trans (hFt_4 oo)
          have hBa_5 : Bx w5 (w.heap.size + 1) [.int .i64 a.kind, .int .i64 a.k, (.slice Aa1 a.x.monos.length ca1), (.slice Aa2 a.y.monos.length ca2)] := hx5.bx hBa_4 (by omega)
          have hFa_5 : ∀ oo, w5.frozen? ⟨w.heap.size + 1, oo, none⟩ = false := fun oo => (hx5.frozen (by omega)).trans (hFa_4 oo)
          clear hBt_4 hFt_4 hBa_4 hFa_4
          clear hy
          obtain ⟨A_w1, c_w1, rfl, -, -⟩ := ho_w1.sl.form
          have fr_w : Fr w4 w5 (F_w1) := hf_w.mk1 (by first | exact Nat.le_refl _ | (simp; done)) (Nat.le_refl _)
          clear hf_w
          iterate 3 ((refine Plan.float_step (v := ?_) rfl (by rfl) (fun _ _ _ h => h) (fun w' hSw => ?_) ?_; rotate_left; · (go_simp; try with_reducible rfl)); (try simp only [Act.put, List.setIfInBounds_toArray, List.set_cons_zero, List.set_cons_succ]))
          refine Plan.chain_step rfl (fun K hK => ?_)
          go_simp
          refine hK.out _ _ (Ext.trans (Ext.trans (Ext.trans hx3 hx4) hx5) (show Ext w5 (w5.alloc (.cells #[.slice none 0 0] 24)) from Ext.auto)) ?_
          clear hK
          (try simp only [Act.put, List.setIfInBounds_toArray, List.set_cons_zero, List.set_cons_succ])
          have hyA : Ext w5 (w5.alloc (.cells #[.slice none 0 0] 24)) := Ext.auto
          have hsA : w5.heap.size < (w5.alloc (.cells #[.slice none 0 0] 24)).heap.size := by simp
          have hBA : Bx (w5.alloc (.cells #[.slice none 0 0] 24)) w5.heap.size [.slice none 0 0] := Bx.new w5 #[.slice none 0 0] 24
          have hFA : ∀ oo, (w5.alloc (.cells #[.slice none 0 0] 24)).frozen? ⟨w5.heap.size, oo, none⟩ = false := fz_new w5 #[.slice none 0 0] 24 rfl
          generalize (w5.alloc (.cells #[.slice none 0 0] 24)) = w6 at *
          have hx6 : Ext w5 w6 := Ext.trans (Ext.auto) hyA
          have hs6 := hx6.size
          have he6 : Ext w w6 := he5.trans hx6
          have hBt_6 : Bx w6 (w.heap.size) [(.slice At1 t.atoms.length ct1)] := hx6.bx hBt_5 (by omega)
          have hFt_6 : ∀ oo, w6.frozen? ⟨w.heap.size, oo, none⟩ = false := fun oo => (hx6.frozen (by omega)).trans (hFt_5 oo)
          have hBa_6 : Bx w6 (w.heap.size + 1) [.int .i64 a.kind, .int .i64 a.k, (.slice Aa1 a.x.monos.length ca1), (.slice Aa2 a.y.monos.length ca2)] := hx6.bx hBa_5 (by omega)
          have hFa_6 : ∀ oo, w6.frozen? ⟨w.heap.size + 1, oo, none⟩ = false := fun oo => (hx6.frozen (by omega)).trans (hFa_5 oo)
          clear hBt_5 hFt_5 hBa_5 hFa_5
          have hBq_6 := hBA
          have hFq_6 := hFA
          clear hBA hFA hyA
          have yq : w5.heap.size < w6.heap.size := by omega
          have xq0 : w6.cell? ⟨w5.heap.size, 0, none⟩ = some (.slice none 0 0) := hBq_6 0 _ rfl
          have fq := hFq_6
          refine Plan.chain_step rfl (fun K hK => ?_)
          go_simp
          have hcl : Ext w2 w6 := (Ext.trans (Ext.trans (Ext.trans hx3 hx4) hx5) hx6)
          refine hK.out _ _ (Ext.hold hcl) ?_
          clear hK
          (try simp only [Act.put, List.setIfInBounds_toArray, List.set_cons_zero, List.set_cons_succ])
          refine Plan.tail_step ?_
          simp only [List.drop_succ_cons, List.drop_zero]
          clear hS
          go_wp2_with fail
          go_meet
          exact ⟨w5.heap.size, _, _, F_w1, rfl, rfl, Ext.hold hcl, (by omega), (by first | omega | (simp; omega)), (by have := (Bx.put hBq_6 (j := 0) (by simp) ((.slice A_w1 ((tabPut t a).atoms).length c_w1))); simpa using this), fz_hold hFq_6, OwnSl.stay (OwnSl.up ho_w1 (fr_w.mk1 (Nat.le_refl _) (by omega)) hx6) (fun z hb => by
              have q := fr_w.2 z hb; have q1 := q.1; have q2 := q.2
              repeat (first | rw [heap_set _ _ _ _ (by show _ ≠ z; omega)] | rw [heap_set _ _ _ _ (by simp; omega)])), fr_w.mk1 (by first | omega | (simp; done) | (simp; omega)) (by first | omega | (simp; done) | (simp; omega))⟩
        · 
          refine Plan.chain_step rfl (fun K hK => ?_)
          go_simp
          refine hK.out _ _ (Ext.trans (Ext.trans hx3 hx4) (show Ext w4 (w4.alloc (.cells #[.slice none 0 0] 24)) from Ext.auto)) ?_
          clear hK
          (try simp only [Act.put, List.setIfInBounds_toArray, List.set_cons_zero, List.set_cons_succ])
          have hyA : Ext w4 (w4.alloc (.cells #[.slice none 0 0] 24)) := Ext.auto
          have hsA : w4.heap.size < (w4.alloc (.cells #[.slice none 0 0] 24)).heap.size := by simp
          have hBA : Bx (w4.alloc (.cells #[.slice none 0 0] 24)) w4.heap.size [.slice none 0 0] := Bx.new w4 #[.slice none 0 0] 24
          have hFA : ∀ oo, (w4.alloc (.cells #[.slice none 0 0] 24)).frozen? ⟨w4.heap.size, oo, none⟩ = false := fz_new w4 #[.slice none 0 0] 24 rfl
          generalize (w4.alloc (.cells #[.slice none 0 0] 24)) = w5 at *
          have hx5 : Ext w4 w5 := Ext.trans (Ext.auto) hyA
          have hs5 := hx5.size
          have he5 : Ext w w5 := he4.trans hx5
          have hBt_5 : Bx w5 (w.heap.size) [(.slice At1 t.atoms.length ct1)] := hx5.bx hBt_4 (by omega)
          have hFt_5 : ∀ oo, w5.frozen? ⟨w.heap.size, oo, none⟩ = false := fun oo => (hx5.frozen (by omega)).trans (hFt_4 oo)
          have hBa_5 : Bx w5 (w.heap.size + 1) [.int .i64 a.kind, .int .i64 a.k, (.slice Aa1 a.x.monos.length ca1), (.slice Aa2 a.y.monos.length ca2)] := hx5.bx hBa_4 (by omega)
          have hFa_5 : ∀ oo, w5.frozen? ⟨w.heap.size + 1, oo, none⟩ = false := fun oo => (hx5.frozen (by omega)).trans (hFa_4 oo)
          clear hBt_4 hFt_4 hBa_4 hFa_4
          have hBq_5 := hBA
          have hFq_5 := hFA
          clear hBA hFA hyA
          refine Plan.chain_step rfl (fun K hK => ?_)
          go_simp
          refine (specTabPut_any t a _ _ _ _ ((OwnSl.up ho_pt1 (fr_pt.mk1 (Nat.le_refl _) (by omega)) (Ext.trans hx4 hx5)).old (fr_pt.mk1 (Nat.le_refl _) (by omega))) ((OwnSl.up ho_pa1 (fr_pa.inl.mk1 (Nat.le_refl _) (by omega)) hx5).old (fr_pa.inl.mk1 (Nat.le_refl _) (by omega))) ((OwnSl.up ho_pa2 (fr_pa.inr.mk1 (Nat.le_refl _) (by omega)) hx5).old (fr_pa.inr.mk1 (Nat.le_refl _) (by omega))) hka (by omega) (by omega)).mono ?_
          rintro e w6 ⟨r_w1, F_w1, rfl, ho_w1, hf_w, hy⟩
          refine hK.out _ _ (Ext.trans (Ext.trans (Ext.trans hx3 hx4) hx5) hy) ?_
          clear hK
          (try simp only [Act.put, List.setIfInBounds_toArray, List.set_cons_zero, List.set_cons_succ])
          have hx6 : Ext w5 w6 := Ext.trans (Ext.auto) hy
          have hs6 := hx6.size
          have he6 : Ext w w6 := he5.trans hx6
          have hBt_6 : Bx w6 (w.heap.size) [(.slice At1 t.atoms.length ct1)] := hx6.bx hBt_5 (by omega)
          have hFt_6 : ∀ oo, w6.frozen? ⟨w.heap.size, oo, none⟩ = false := fun oo => (hx6.frozen (by omega)).trans (hFt_5 oo)
          have hBa_6 : Bx w6 (w.heap.size + 1) [.int .i64 a.kind, .int .i64 a.k, (.slice Aa1 a.x.monos.length ca1), (.slice Aa2 a.y.monos.length ca2)] := hx6.bx hBa_5 (by omega)
          have hFa_6 : ∀ oo, w6.frozen? ⟨w.heap.size + 1, oo, none⟩ = false := fun oo => (hx6.frozen (by omega)).trans (hFa_5 oo)
          have hBq_6 : Bx w6 (w4.heap.size) [.slice none 0 0] := hx6.bx hBq_5 (by omega)
          have hFq_6 : ∀ oo, w6.frozen? ⟨w4.heap.size, oo, none⟩ = false := fun oo => (hx6.frozen (by omega)).trans (hFq_5 oo)
          clear hBt_5 hFt_5 hBa_5 hFa_5 hBq_5 hFq_5
          clear hy
          obtain ⟨A_w1, c_w1, rfl, -, -⟩ := ho_w1.sl.form
          have fr_w : Fr w5 w6 (F_w1) := hf_w.mk1 (by first | exact Nat.le_refl _ | (simp; done)) (Nat.le_refl _)
          clear hf_w
          iterate 3 ((refine Plan.float_step (v := ?_) rfl (by rfl) (fun _ _ _ h => h) (fun w' hSw => ?_) ?_; rotate_left; · (go_simp; try with_reducible rfl)); (try simp only [Act.put, List.setIfInBounds_toArray, List.set_cons_zero, List.set_cons_succ]))
          have yq : w4.heap.size < w6.heap.size := by omega
          have xq0 : w6.cell? ⟨w4.heap.size, 0, none⟩ = some (.slice none 0 0) := hBq_6 0 _ rfl
          have fq := hFq_6
          refine Plan.chain_step rfl (fun K hK => ?_)
          go_simp
          have hcl : Ext w2 w6 := (Ext.trans (Ext.trans (Ext.trans hx3 hx4) hx5) hx6)
          refine hK.out _ _ (Ext.hold hcl) ?_
          clear hK
          (try simp only [Act.put, List.setIfInBounds_toArray, List.set_cons_zero, List.set_cons_succ])
          refine Plan.tail_step ?_
          simp only [List.drop_succ_cons, List.drop_zero]
          clear hS
          go_wp2_with fail
          go_meet
          exact ⟨w4.heap.size, _, _, F_w1, rfl, rfl, Ext.hold hcl, (by omega), (by first | omega | (simp; omega)), (by have := (Bx.put hBq_6 (j := 0) (by simp) ((.slice A_w1 ((tabPut t a).atoms).length c_w1))); simpa using this), fz_hold hFq_6, OwnSl.stay (OwnSl.up ho_w1 (fr_w.mk1 (Nat.le_refl _) (by omega)) (Ext.refl _)) (fun z hb => by
              have q := fr_w.2 z hb; have q1 := q.1; have q2 := q.2
              repeat (first | rw [heap_set _ _ _ _ (by show _ ≠ z; omega)] | rw [heap_set _ _ _ _ (by simp; omega)])), fr_w.mk1 (by first | omega | (simp; done) | (simp; omega)) (by first | omega | (simp; done) | (simp; omega))⟩
      · 
        refine Plan.chain_step rfl (fun K hK => ?_)
        go_simp
        refine hK.out _ _ (Ext.trans hx3 (show Ext w3 (w3.alloc (.cells #[.slice none 0 0] 24)) from Ext.auto)) ?_
        clear hK
        (try simp only [Act.put, List.setIfInBounds_toArray, List.set_cons_zero, List.set_cons_succ])
        have hyA : Ext w3 (w3.alloc (.cells #[.slice none 0 0] 24)) := Ext.auto
        have hsA : w3.heap.size < (w3.alloc (.cells #[.slice none 0 0] 24)).heap.size := by simp
        have hBA : Bx (w3.alloc (.cells #[.slice none 0 0] 24)) w3.heap.size [.slice none 0 0] := Bx.new w3 #[.slice none 0 0] 24
        have hFA : ∀ oo, (w3.alloc (.cells #[.slice none 0 0] 24)).frozen? ⟨w3.heap.size, oo, none⟩ = false := fz_new w3 #[.slice none 0 0] 24 rfl
        generalize (w3.alloc (.cells #[.slice none 0 0] 24)) = w4 at *
        have hx4 : Ext w3 w4 := Ext.trans (Ext.auto) hyA
        have hs4 := hx4.size
        have he4 : Ext w w4 := he3.trans hx4
        have hBt_4 : Bx w4 (w.heap.size) [(.slice At1 t.atoms.length ct1)] := hx4.bx hBt_3 (by omega)
        have hFt_4 : ∀ oo, w4.frozen? ⟨w.heap.size, oo, none⟩ = false := fun oo => (hx4.frozen (by omega)).trans (hFt_3 oo)
        have hBa_4 : Bx w4 (w.heap.size + 1) [.int .i64 a.kind, .int .i64 a.k, (.slice Aa1 a.x.monos.length ca1), (.slice Aa2 a.y.monos.length ca2)] := hx4.bx hBa_3 (by omega)
        have hFa_4 : ∀ oo, w4.frozen? ⟨w.heap.size + 1, oo, none⟩ = false := fun oo => (hx4.frozen (by omega)).trans (hFa_3 oo)
        clear hBt_3 hFt_3 hBa_3 hFa_3
        have hBq_4 := hBA
        have hFq_4 := hFA
        clear hBA hFA hyA
        refine Plan.chain_step rfl (fun K hK => ?_)
        go_simp
        refine (to_TabAtom a _ _ _ (ha1.ext (Ext.trans he4 (Ext.auto))) (ha2.ext (Ext.trans he4 (Ext.auto))) na).mono ?_
        rintro e w5 ⟨r_pa1, r_pa2, F_pa1, F_pa2, rfl, ho_pa1, ho_pa2, hf_pa, hy⟩
        refine hK.out _ _ (Ext.trans (Ext.trans hx3 hx4) hy) ?_
        clear hK
        (try simp only [Act.put, List.setIfInBounds_toArray, List.set_cons_zero, List.set_cons_succ])
        have hx5 : Ext w4 w5 := Ext.trans (Ext.auto) hy
        have hs5 := hx5.size
        have he5 : Ext w w5 := he4.trans hx5
        have hBt_5 : Bx w5 (w.heap.size) [(.slice At1 t.atoms.length ct1)] := hx5.bx hBt_4 (by omega)
        have hFt_5 : ∀ oo, w5.frozen? ⟨w.heap.size, oo, none⟩ = false := fun oo => (hx5.frozen (by omega)).trans (hFt_4 oo)
        have hBa_5 : Bx w5 (w.heap.size + 1) [.int .i64 a.kind, .int .i64 a.k, (.slice Aa1 a.x.monos.length ca1), (.slice Aa2 a.y.monos.length ca2)] := hx5.bx hBa_4 (by omega)
        have hFa_5 : ∀ oo, w5.frozen? ⟨w.heap.size + 1, oo, none⟩ = false := fun oo => (hx5.frozen (by omega)).trans (hFa_4 oo)
        have hBq_5 : Bx w5 (w3.heap.size) [.slice none 0 0] := hx5.bx hBq_4 (by omega)
        have hFq_5 : ∀ oo, w5.frozen? ⟨w3.heap.size, oo, none⟩ = false := fun oo => (hx5.frozen (by omega)).trans (hFq_4 oo)
        clear hBt_4 hFt_4 hBa_4 hFa_4 hBq_4 hFq_4
        clear hy
        obtain ⟨A_pa1, c_pa1, rfl, -, -⟩ := ho_pa1.sl.form
        obtain ⟨A_pa2, c_pa2, rfl, -, -⟩ := ho_pa2.sl.form
        have fr_pa : Fr w4 w5 (F_pa1 ++ F_pa2) := hf_pa.mk1 (by first | exact Nat.le_refl _ | (simp; done)) (Nat.le_refl _)
        clear hf_pa
        refine Plan.chain_step rfl (fun K hK => ?_)
        go_simp
        refine (specTabPut_any t a _ _ _ _ ((OwnSl.up ho_pt1 (fr_pt.mk1 (Nat.le_refl _) (by omega)) (Ext.trans hx4 hx5)).old (fr_pt.mk1 (Nat.le_refl _) (by omega))) ((OwnSl.up ho_pa1 (fr_pa.inl.mk1 (Nat.le_refl _) (by omega)) (Ext.refl _)).old (fr_pa.inl.mk1 (Nat.le_refl _) (by omega))) ((OwnSl.up ho_pa2 (fr_pa.inr.mk1 (Nat.le_refl _) (by omega)) (Ext.refl _)).old (fr_pa.inr.mk1 (Nat.le_refl _) (by omega))) hka (by omega) (by omega)).mono ?_
        rintro e w6 ⟨r_w1, F_w1, rfl, ho_w1, hf_w, hy⟩
        refine hK.out _ _ (Ext.trans (Ext.trans (Ext.trans hx3 hx4) hx5) hy) ?_
        clear hK
        (try simp only [Act.put, List.setIfInBounds_toArray, List.set_cons_zero, List.set_cons_succ])
        have hx6 : Ext w5 w6 := Ext.trans (Ext.auto) hy
        have hs6 := hx6.size
        have he6 : Ext w w6 := he5.trans hx6
        have hBt_6 : Bx w6 (w.heap.size) [(.slice At1 t.atoms.length ct1)] := hx6.bx hBt_5 (by omega)
        have hFt_6 : ∀ oo, w6.frozen? ⟨w.heap.size, oo, none⟩ = false := fun oo => (hx6.frozen (by omega)).trans (hFt_5 oo)
        have hBa_6 : Bx w6 (w.heap.size + 1) [.int .i64 a.kind, .int .i64 a.k, (.slice Aa1 a.x.monos.length ca1), (.slice Aa2 a.y.monos.length ca2)] := hx6.bx hBa_5 (by omega)
        have hFa_6 : ∀ oo, w6.frozen? ⟨w.heap.size + 1, oo, none⟩ = false := fun oo => (hx6.frozen (by omega)).trans (hFa_5 oo)
        have hBq_6 : Bx w6 (w3.heap.size) [.slice none 0 0] := hx6.bx hBq_5 (by omega)
        have hFq_6 : ∀ oo, w6.frozen? ⟨w3.heap.size, oo, none⟩ = false := fun oo => (hx6.frozen (by omega)).trans (hFq_5 oo)
        clear hBt_5 hFt_5 hBa_5 hFa_5 hBq_5 hFq_5
        clear hy
        obtain ⟨A_w1, c_w1, rfl, -, -⟩ := ho_w1.sl.form
        have fr_w : Fr w5 w6 (F_w1) := hf_w.mk1 (by first | exact Nat.le_refl _ | (simp; done)) (Nat.le_refl _)
        clear hf_w
        iterate 3 ((refine Plan.float_step (v := ?_) rfl (by rfl) (fun _ _ _ h => h) (fun w' hSw => ?_) ?_; rotate_left; · (go_simp; try with_reducible rfl)); (try simp only [Act.put, List.setIfInBounds_toArray, List.set_cons_zero, List.set_cons_succ]))
        have yq : w3.heap.size < w6.heap.size := by omega
        have xq0 : w6.cell? ⟨w3.heap.size, 0, none⟩ = some (.slice none 0 0) := hBq_6 0 _ rfl
        have fq := hFq_6
        refine Plan.chain_step rfl (fun K hK => ?_)
        go_simp
        have hcl : Ext w2 w6 := (Ext.trans (Ext.trans (Ext.trans hx3 hx4) hx5) hx6)
        refine hK.out _ _ (Ext.hold hcl) ?_
        clear hK
        (try simp only [Act.put, List.setIfInBounds_toArray, List.set_cons_zero, List.set_cons_succ])
        refine Plan.tail_step ?_
        simp only [List.drop_succ_cons, List.drop_zero]
        clear hS
        go_wp2_with fail
        go_meet
        exact ⟨w3.heap.size, _, _, F_w1, rfl, rfl, Ext.hold hcl, (by omega), (by first | omega | (simp; omega)), (by have := (Bx.put hBq_6 (j := 0) (by simp) ((.slice A_w1 ((tabPut t a).atoms).length c_w1))); simpa using this), fz_hold hFq_6, OwnSl.stay (OwnSl.up ho_w1 (fr_w.mk1 (Nat.le_refl _) (by omega)) (Ext.refl _)) (fun z hb => by
            have q := fr_w.2 z hb; have q1 := q.1; have q2 := q.2
            repeat (first | rw [heap_set _ _ _ _ (by show _ ≠ z; omega)] | rw [heap_set _ _ _ _ (by simp; omega)])), fr_w.mk1 (by first | omega | (simp; done) | (simp; omega)) (by first | omega | (simp; done) | (simp; omega))⟩
    · 
      refine Plan.chain_step rfl (fun K hK => ?_)
      go_simp
      refine hK.out _ _ (Ext.trans (Ext.refl _) (show Ext w2 (w2.alloc (.cells #[.slice none 0 0] 24)).drew from Ext.auto)) ?_
      clear hK
      (try simp only [Act.put, List.setIfInBounds_toArray, List.set_cons_zero, List.set_cons_succ])
      have hyA : Ext w2 (w2.alloc (.cells #[.slice none 0 0] 24)).drew := Ext.auto
      have hsA : w2.heap.size < (w2.alloc (.cells #[.slice none 0 0] 24)).drew.heap.size := by simp
      have hBA : Bx (w2.alloc (.cells #[.slice none 0 0] 24)).drew w2.heap.size [.slice none 0 0] := Bx.new w2 #[.slice none 0 0] 24
      have hFA : ∀ oo, (w2.alloc (.cells #[.slice none 0 0] 24)).drew.frozen? ⟨w2.heap.size, oo, none⟩ = false := fz_new w2 #[.slice none 0 0] 24 rfl
      generalize (w2.alloc (.cells #[.slice none 0 0] 24)).drew = w3 at *
      have hx3 : Ext w2 w3 := Ext.trans (Ext.auto) hyA
      have hs3 := hx3.size
      have he3 : Ext w w3 := he2.trans hx3
      have hBt_3 : Bx w3 (w.heap.size) [(.slice At1 t.atoms.length ct1)] := hx3.bx hBt_2 (by omega)
      have hFt_3 : ∀ oo, w3.frozen? ⟨w.heap.size, oo, none⟩ = false := fun oo => (hx3.frozen (by omega)).trans (hFt_2 oo)
      have hBa_3 : Bx w3 (w.heap.size + 1) [.int .i64 a.kind, .int .i64 a.k, (.slice Aa1 a.x.monos.length ca1), (.slice Aa2 a.y.monos.length ca2)] := hx3.bx hBa_2 (by omega)
      have hFa_3 : ∀ oo, w3.frozen? ⟨w.heap.size + 1, oo, none⟩ = false := fun oo => (hx3.frozen (by omega)).trans (hFa_2 oo)
      clear hBt_2 hFt_2 hBa_2 hFa_2
      have hBq_3 := hBA
      have hFq_3 := hFA
      clear hBA hFA hyA
      refine Plan.chain_step rfl (fun K hK => ?_)
      go_simp
      refine (to_TabTab t _ _ (ht1.ext (Ext.trans he3 (Ext.auto))) nt).mono ?_
      rintro e w4 ⟨r_pt1, F_pt1, rfl, ho_pt1, hf_pt, hy⟩
      refine hK.out _ _ (Ext.trans hx3 hy) ?_
      clear hK
      (try simp only [Act.put, List.setIfInBounds_toArray, List.set_cons_zero, List.set_cons_succ])
      have hx4 : Ext w3 w4 := Ext.trans (Ext.auto) hy
      have hs4 := hx4.size
      have he4 : Ext w w4 := he3.trans hx4
      have hBt_4 : Bx w4 (w.heap.size) [(.slice At1 t.atoms.length ct1)] := hx4.bx hBt_3 (by omega)
      have hFt_4 : ∀ oo, w4.frozen? ⟨w.heap.size, oo, none⟩ = false := fun oo => (hx4.frozen (by omega)).trans (hFt_3 oo)
      have hBa_4 : Bx w4 (w.heap.size + 1) [.int .i64 a.kind, .int .i64 a.k, (.slice Aa1 a.x.monos.length ca1), (.slice Aa2 a.y.monos.length ca2)] := hx4.bx hBa_3 (by omega)
      have hFa_4 : ∀ oo, w4.frozen? ⟨w.heap.size + 1, oo, none⟩ = false := fun oo => (hx4.frozen (by omega)).trans (hFa_3 oo)
      have hBq_4 : Bx w4 (w2.heap.size) [.slice none 0 0] := hx4.bx hBq_3 (by omega)
      have hFq_4 : ∀ oo, w4.frozen? ⟨w2.heap.size, oo, none⟩ = false := fun oo => (hx4.frozen (by omega)).trans (hFq_3 oo)
      clear hBt_3 hFt_3 hBa_3 hFa_3 hBq_3 hFq_3
      clear hy
      obtain ⟨A_pt1, c_pt1, rfl, -, -⟩ := ho_pt1.sl.form
      have fr_pt : Fr w3 w4 (F_pt1) := hf_pt.mk1 (by first | exact Nat.le_refl _ | (simp; done)) (Nat.le_refl _)
      clear hf_pt
      refine Plan.chain_step rfl (fun K hK => ?_)
      go_simp
      refine (to_TabAtom a _ _ _ (ha1.ext (Ext.trans he4 (Ext.auto))) (ha2.ext (Ext.trans he4 (Ext.auto))) na).mono ?_
      rintro e w5 ⟨r_pa1, r_pa2, F_pa1, F_pa2, rfl, ho_pa1, ho_pa2, hf_pa, hy⟩
      refine hK.out _ _ (Ext.trans (Ext.trans hx3 hx4) hy) ?_
      clear hK
      (try simp only [Act.put, List.setIfInBounds_toArray, List.set_cons_zero, List.set_cons_succ])
      have hx5 : Ext w4 w5 := Ext.trans (Ext.auto) hy
      have hs5 := hx5.size
      have he5 : Ext w w5 := he4.trans hx5
      have hBt_5 : Bx w5 (w.heap.size) [(.slice At1 t.atoms.length ct1)] := hx5.bx hBt_4 (by omega)
      have hFt_5 : ∀ oo, w5.frozen? ⟨w.heap.size, oo, none⟩ = false := fun oo => (hx5.frozen (by omega)).trans (hFt_4 oo)
      have hBa_5 : Bx w5 (w.heap.size + 1) [.int .i64 a.kind, .int .i64 a.k, (.slice Aa1 a.x.monos.length ca1), (.slice Aa2 a.y.monos.length ca2)] := hx5.bx hBa_4 (by omega)
      have hFa_5 : ∀ oo, w5.frozen? ⟨w.heap.size + 1, oo, none⟩ = false := fun oo => (hx5.frozen (by omega)).trans (hFa_4 oo)
      have hBq_5 : Bx w5 (w2.heap.size) [.slice none 0 0] := hx5.bx hBq_4 (by omega)
      have hFq_5 : ∀ oo, w5.frozen? ⟨w2.heap.size, oo, none⟩ = false := fun oo => (hx5.frozen (by omega)).trans (hFq_4 oo)
      clear hBt_4 hFt_4 hBa_4 hFa_4 hBq_4 hFq_4
      clear hy
      obtain ⟨A_pa1, c_pa1, rfl, -, -⟩ := ho_pa1.sl.form
      obtain ⟨A_pa2, c_pa2, rfl, -, -⟩ := ho_pa2.sl.form
      have fr_pa : Fr w4 w5 (F_pa1 ++ F_pa2) := hf_pa.mk1 (by first | exact Nat.le_refl _ | (simp; done)) (Nat.le_refl _)
      clear hf_pa
      refine Plan.chain_step rfl (fun K hK => ?_)
      go_simp
      refine (specTabPut_any t a _ _ _ _ ((OwnSl.up ho_pt1 (fr_pt.mk1 (Nat.le_refl _) (by omega)) hx5).old (fr_pt.mk1 (Nat.le_refl _) (by omega))) ((OwnSl.up ho_pa1 (fr_pa.inl.mk1 (Nat.le_refl _) (by omega)) (Ext.refl _)).old (fr_pa.inl.mk1 (Nat.le_refl _) (by omega))) ((OwnSl.up ho_pa2 (fr_pa.inr.mk1 (Nat.le_refl _) (by omega)) (Ext.refl _)).old (fr_pa.inr.mk1 (Nat.le_refl _) (by omega))) hka (by omega) (by omega)).mono ?_
      rintro e w6 ⟨r_w1, F_w1, rfl, ho_w1, hf_w, hy⟩
      refine hK.out _ _ (Ext.trans (Ext.trans (Ext.trans hx3 hx4) hx5) hy) ?_
      clear hK
      (try simp only [Act.put, List.setIfInBounds_toArray, List.set_cons_zero, List.set_cons_succ])
      have hx6 : Ext w5 w6 := Ext.trans (Ext.auto) hy
      have hs6 := hx6.size
      have he6 : Ext w w6 := he5.trans hx6
      have hBt_6 : Bx w6 (w.heap.size) [(.slice At1 t.atoms.length ct1)] := hx6.bx hBt_5 (by omega)
      have hFt_6 : ∀ oo, w6.frozen? ⟨w.heap.size, oo, none⟩ = false := fun oo => (hx6.frozen (by omega)).trans (hFt_5 oo)
      have hBa_6 : Bx w6 (w.heap.size + 1) [.int .i64 a.kind, .int .i64 a.k, (.slice Aa1 a.x.monos.length ca1), (.slice Aa2 a.y.monos.length ca2)] := hx6.bx hBa_5 (by omega)
      have hFa_6 : ∀ oo, w6.frozen? ⟨w.heap.size + 1, oo, none⟩ = false := fun oo => (hx6.frozen (by omega)).trans (hFa_5 oo)
      have hBq_6 : Bx w6 (w2.heap.size) [.slice none 0 0] := hx6.bx hBq_5 (by omega)
      have hFq_6 : ∀ oo, w6.frozen? ⟨w2.heap.size, oo, none⟩ = false := fun oo => (hx6.frozen (by omega)).trans (hFq_5 oo)
      clear hBt_5 hFt_5 hBa_5 hFa_5 hBq_5 hFq_5
      clear hy
      obtain ⟨A_w1, c_w1, rfl, -, -⟩ := ho_w1.sl.form
      have fr_w : Fr w5 w6 (F_w1) := hf_w.mk1 (by first | exact Nat.le_refl _ | (simp; done)) (Nat.le_refl _)
      clear hf_w
      iterate 3 ((refine Plan.float_step (v := ?_) rfl (by rfl) (fun _ _ _ h => h) (fun w' hSw => ?_) ?_; rotate_left; · (go_simp; try with_reducible rfl)); (try simp only [Act.put, List.setIfInBounds_toArray, List.set_cons_zero, List.set_cons_succ]))
      have yq : w2.heap.size < w6.heap.size := by omega
      have xq0 : w6.cell? ⟨w2.heap.size, 0, none⟩ = some (.slice none 0 0) := hBq_6 0 _ rfl
      have fq := hFq_6
      refine Plan.chain_step rfl (fun K hK => ?_)
      go_simp
      have hcl : Ext w2 w6 := (Ext.trans (Ext.trans (Ext.trans hx3 hx4) hx5) hx6)
      refine hK.out _ _ (Ext.hold hcl) ?_
      clear hK
      (try simp only [Act.put, List.setIfInBounds_toArray, List.set_cons_zero, List.set_cons_succ])
      refine Plan.tail_step ?_
      simp only [List.drop_succ_cons, List.drop_zero]
      clear hS
      go_wp2_with fail
      go_meet
      exact ⟨w2.heap.size, _, _, F_w1, rfl, rfl, Ext.hold hcl, (by omega), (by first | omega | (simp; omega)), (by have := (Bx.put hBq_6 (j := 0) (by simp) ((.slice A_w1 ((tabPut t a).atoms).length c_w1))); simpa using this), fz_hold hFq_6, OwnSl.stay (OwnSl.up ho_w1 (fr_w.mk1 (Nat.le_refl _) (by omega)) (Ext.refl _)) (fun z hb => by
          have q := fr_w.2 z hb; have q1 := q.1; have q2 := q.2
          repeat (first | rw [heap_set _ _ _ _ (by show _ ≠ z; omega)] | rw [heap_set _ _ _ _ (by simp; omega)])), fr_w.mk1 (by first | omega | (simp; done) | (simp; omega)) (by first | omega | (simp; done) | (simp; omega))⟩
  obtain ⟨q_w, A_w1, c_w1, F_w1, rfl, rfl, hy, hq0_w, hq1_w, hBq_, hFq_, ho_w1, fr_w⟩ := hcut
  obtain ⟨w3, hwc⟩ : ∃ w3 : World, w3 = wc := ⟨_, rfl⟩
  subst hwc
  have hx3 : Ext w2 w3 := Ext.trans (Ext.auto) hy
  have hs3 := hx3.size
  have he3 : Ext w w3 := he2.trans hx3
  have hBt_3 : Bx w3 (w.heap.size) [(.slice At1 t.atoms.length ct1)] := hx3.bx hBt_2 (by omega)
  have hFt_3 : ∀ oo, w3.frozen? ⟨w.heap.size, oo, none⟩ = false := fun oo => (hx3.frozen (by omega)).trans (hFt_2 oo)
  have hBa_3 : Bx w3 (w.heap.size + 1) [.int .i64 a.kind, .int .i64 a.k, (.slice Aa1 a.x.monos.length ca1), (.slice Aa2 a.y.monos.length ca2)] := hx3.bx hBa_2 (by omega)
  have hFa_3 : ∀ oo, w3.frozen? ⟨w.heap.size + 1, oo, none⟩ = false := fun oo => (hx3.frozen (by omega)).trans (hFa_2 oo)
  clear hBt_2 hFt_2 hBa_2 hFa_2
  clear hy
  have hBw_3 := hBq_
  have hFw_3 := hFq_
  clear hBq_ hFq_
  have yt : w.heap.size < w3.heap.size := by omega
  have xt0 : w3.cell? ⟨w.heap.size, 0, none⟩ = some ((.slice At1 t.atoms.length ct1)) := hBt_3 0 _ rfl
  go_wp2_with fail
  clear xt0 yt
  refine (to_TabTab t _ _ (ht1.ext (Ext.trans he3 (Ext.auto))) nt).mono ?_
  rintro e w4 ⟨r_xt1, F_xt1, rfl, ho_xt1, hf_xt, hy⟩
  have hx4 : Ext w3 w4 := Ext.trans (Ext.auto) hy
  have hs4 := hx4.size
  have he4 : Ext w w4 := he3.trans hx4
  have hBt_4 : Bx w4 (w.heap.size) [(.slice At1 t.atoms.length ct1)] := hx4.bx hBt_3 (by omega)
  have hFt_4 : ∀ oo, w4.frozen? ⟨w.heap.size, oo, none⟩ = false := fun oo => (hx4.frozen (by omega)).trans (hFt_3 oo)
  have hBa_4 : Bx w4 (w.heap.size + 1) [.int .i64 a.kind, .int .i64 a.k, (.slice Aa1 a.x.monos.length ca1), (.slice Aa2 a.y.monos.length ca2)] := hx4.bx hBa_3 (by omega)
  have hFa_4 : ∀ oo, w4.frozen? ⟨w.heap.size + 1, oo, none⟩ = false := fun oo => (hx4.frozen (by omega)).trans (hFa_3 oo)
  have hBw_4 : Bx w4 (q_w) [(.slice A_w1 ((tabPut t a).atoms).length c_w1)] := hx4.bx hBw_3 (by omega)
  have hFw_4 : ∀ oo, w4.frozen? ⟨q_w, oo, none⟩ = false := fun oo => (hx4.frozen (by omega)).trans (hFw_3 oo)
  clear hBt_3 hFt_3 hBa_3 hFa_3 hBw_3 hFw_3
  clear hy
  obtain ⟨A_xt1, c_xt1, rfl, -, -⟩ := ho_xt1.sl.form
  have fr_xt : Fr w3 w4 (F_xt1) := hf_xt.mk1 (by first | exact Nat.le_refl _ | (simp; done)) (Nat.le_refl _)
  clear hf_xt
  have ya : w.heap.size + 1 < w4.heap.size := by omega
  have xa0 := hBa_4 0 _ rfl
  have xa1 := hBa_4 1 _ rfl
  have xa2 := hBa_4 2 _ rfl
  have xa3 := hBa_4 3 _ rfl
  go_wp2_with fail
  clear xa0 xa1 xa2 xa3 ya
  have hx5 : Ext w4 (w4.alloc (Obj.cells #[(.slice A_xt1 (t.atoms).length c_xt1)] 24)) := (Ext.auto)
  have hs5 : w4.heap.size + 1 ≤ ((w4.alloc (Obj.cells #[(.slice A_xt1 (t.atoms).length c_xt1)] 24))).heap.size := by simp
  have he5 : Ext w (w4.alloc (Obj.cells #[(.slice A_xt1 (t.atoms).length c_xt1)] 24)) := he4.trans hx5
  have hBt_5 : Bx (w4.alloc (Obj.cells #[(.slice A_xt1 (t.atoms).length c_xt1)] 24)) (w.heap.size) [(.slice At1 t.atoms.length ct1)] := hx5.bx hBt_4 (by omega)
  have hFt_5 : ∀ oo, ((w4.alloc (Obj.cells #[(.slice A_xt1 (t.atoms).length c_xt1)] 24))).frozen? ⟨w.heap.size, oo, none⟩ = false := fun oo => (hx5.frozen (by omega)).trans (hFt_4 oo)
  have hBa_5 : Bx (w4.alloc (Obj.cells #[(.slice A_xt1 (t.atoms).length c_xt1)] 24)) (w.heap.size + 1) [.int .i64 a.kind, .int .i64 a.k, (.slice Aa1 a.x.monos.length ca1), (.slice Aa2 a.y.monos.length ca2)] := hx5.bx hBa_4 (by omega)
  have hFa_5 : ∀ oo, ((w4.alloc (Obj.cells #[(.slice A_xt1 (t.atoms).length c_xt1)] 24))).frozen? ⟨w.heap.size + 1, oo, none⟩ = false := fun oo => (hx5.frozen (by omega)).trans (hFa_4 oo)
  have hBw_5 : Bx (w4.alloc (Obj.cells #[(.slice A_xt1 (t.atoms).length c_xt1)] 24)) (q_w) [(.slice A_w1 ((tabPut t a).atoms).length c_w1)] := hx5.bx hBw_4 (by omega)
  have hFw_5 : ∀ oo, ((w4.alloc (Obj.cells #[(.slice A_xt1 (t.atoms).length c_xt1)] 24))).frozen? ⟨q_w, oo, none⟩ = false := fun oo => (hx5.frozen (by omega)).trans (hFw_4 oo)
  have hBxt_5 : Bx (w4.alloc (Obj.cells #[(.slice A_xt1 (t.atoms).length c_xt1)] 24)) (w4.heap.size) [(.slice A_xt1 (t.atoms).length c_xt1)] := by have := (by have := (Bx.new w4 #[(.slice A_xt1 (t.atoms).length c_xt1)] 24); simpa using this); exact this
  have hFxt_5 : ∀ oo, ((w4.alloc (Obj.cells #[(.slice A_xt1 (t.atoms).length c_xt1)] 24))).frozen? ⟨w4.heap.size, oo, none⟩ = false := fun oo => by simp
  generalize (w4.alloc (Obj.cells #[(.slice A_xt1 (t.atoms).length c_xt1)] 24)) = w5 at *
  clear hBt_4 hFt_4 hBa_4 hFa_4 hBw_4 hFw_4
  refine (to_TabAtom a _ _ _ (ha1.ext (Ext.trans he5 (Ext.auto))) (ha2.ext (Ext.trans he5 (Ext.auto))) na).mono ?_
  rintro e w6 ⟨r_xa1, r_xa2, F_xa1, F_xa2, rfl, ho_xa1, ho_xa2, hf_xa, hy⟩
  have hx6 : Ext w5 w6 := Ext.trans (Ext.auto) hy
  have hs6 := hx6.size
  have he6 : Ext w w6 := he5.trans hx6
  have hBt_6 : Bx w6 (w.heap.size) [(.slice At1 t.atoms.length ct1)] := hx6.bx hBt_5 (by omega)
  have hFt_6 : ∀ oo, w6.frozen? ⟨w.heap.size, oo, none⟩ = false := fun oo => (hx6.frozen (by omega)).trans (hFt_5 oo)
  have hBa_6 : Bx w6 (w.heap.size + 1) [.int .i64 a.kind, .int .i64 a.k, (.slice Aa1 a.x.monos.length ca1), (.slice Aa2 a.y.monos.length ca2)] := hx6.bx hBa_5 (by omega)
  have hFa_6 : ∀ oo, w6.frozen? ⟨w.heap.size + 1, oo, none⟩ = false := fun oo => (hx6.frozen (by omega)).trans (hFa_5 oo)
  have hBw_6 : Bx w6 (q_w) [(.slice A_w1 ((tabPut t a).atoms).length c_w1)] := hx6.bx hBw_5 (by omega)
  have hFw_6 : ∀ oo, w6.frozen? ⟨q_w, oo, none⟩ = false := fun oo => (hx6.frozen (by omega)).trans (hFw_5 oo)
  have hBxt_6 : Bx w6 (w4.heap.size) [(.slice A_xt1 (t.atoms).length c_xt1)] := hx6.bx hBxt_5 (by omega)
  have hFxt_6 : ∀ oo, w6.frozen? ⟨w4.heap.size, oo, none⟩ = false := fun oo => (hx6.frozen (by omega)).trans (hFxt_5 oo)
  clear hBt_5 hFt_5 hBa_5 hFa_5 hBw_5 hFw_5 hBxt_5 hFxt_5
  clear hy
  obtain ⟨A_xa1, c_xa1, rfl, -, -⟩ := ho_xa1.sl.form
  obtain ⟨A_xa2, c_xa2, rfl, -, -⟩ := ho_xa2.sl.form
  have fr_xa : Fr w5 w6 (F_xa1 ++ F_xa2) := hf_xa.mk1 (by first | exact Nat.le_refl _ | (simp; done)) (Nat.le_refl _)
  clear hf_xa
  have yxt : w4.heap.size < w6.heap.size := by omega
  have xxt0 : w6.cell? ⟨w4.heap.size, 0, none⟩ = some ((.slice A_xt1 (t.atoms).length c_xt1)) := hBxt_6 0 _ rfl
  go_wp2_with fail
  clear xxt0 yxt
  have hx7 : Ext w6 (w6.alloc (Obj.cells #[.int .i64 a.kind, .int .i64 a.k, (.slice A_xa1 (a.x.monos).length c_xa1), (.slice A_xa2 (a.y.monos).length c_xa2)] 50)) := (Ext.auto)
  have hs7 : w6.heap.size + 1 ≤ ((w6.alloc (Obj.cells #[.int .i64 a.kind, .int .i64 a.k, (.slice A_xa1 (a.x.monos).length c_xa1), (.slice A_xa2 (a.y.monos).length c_xa2)] 50))).heap.size := by simp
  have he7 : Ext w (w6.alloc (Obj.cells #[.int .i64 a.kind, .int .i64 a.k, (.slice A_xa1 (a.x.monos).length c_xa1), (.slice A_xa2 (a.y.monos).length c_xa2)] 50)) := he6.trans hx7
  have hBt_7 : Bx (w6.alloc (Obj.cells #[.int .i64 a.kind, .int .i64 a.k, (.slice A_xa1 (a.x.monos).length c_xa1), (.slice A_xa2 (a.y.monos).length c_xa2)] 50)) (w.heap.size) [(.slice At1 t.atoms.length ct1)] := hx7.bx hBt_6 (by omega)
  have hFt_7 : ∀ oo, ((w6.alloc (Obj.cells #[.int .i64 a.kind, .int .i64 a.k, (.slice A_xa1 (a.x.monos).length c_xa1), (.slice A_xa2 (a.y.monos).length c_xa2)] 50))).frozen? ⟨w.heap.size, oo, none⟩ = false := fun oo => (hx7.frozen (by omega)).trans (hFt_6 oo)
  have hBa_7 : Bx (w6.alloc (Obj.cells #[.int .i64 a.kind, .int .i64 a.k, (.slice A_xa1 (a.x.monos).length c_xa1), (.slice A_xa2 (a.y.monos).length c_xa2)] 50)) (w.heap.size + 1) [.int .i64 a.kind, .int .i64 a.k, (.slice Aa1 a.x.monos.length ca1), (.slice Aa2 a.y.monos.length ca2)] := hx7.bx hBa_6 (by omega)
  have hFa_7 : ∀ oo, ((w6.alloc (Obj.cells #[.int .i64 a.kind, .int .i64 a.k, (.slice A_xa1 (a.x.monos).length c_xa1), (.slice A_xa2 (a.y.monos).length c_xa2)] 50))).frozen? ⟨w.heap.size + 1, oo, none⟩ = false := fun oo => (hx7.frozen (by omega)).trans (hFa_6 oo)
  have hBw_7 : Bx (w6.alloc (Obj.cells #[.int .i64 a.kind, .int .i64 a.k, (.slice A_xa1 (a.x.monos).length c_xa1), (.slice A_xa2 (a.y.monos).length c_xa2)] 50)) (q_w) [(.slice A_w1 ((tabPut t a).atoms).length c_w1)] := hx7.bx hBw_6 (by omega)
  have hFw_7 : ∀ oo, ((w6.alloc (Obj.cells #[.int .i64 a.kind, .int .i64 a.k, (.slice A_xa1 (a.x.monos).length c_xa1), (.slice A_xa2 (a.y.monos).length c_xa2)] 50))).frozen? ⟨q_w, oo, none⟩ = false := fun oo => (hx7.frozen (by omega)).trans (hFw_6 oo)
  have hBxt_7 : Bx (w6.alloc (Obj.cells #[.int .i64 a.kind, .int .i64 a.k, (.slice A_xa1 (a.x.monos).length c_xa1), (.slice A_xa2 (a.y.monos).length c_xa2)] 50)) (w4.heap.size) [(.slice A_xt1 (t.atoms).length c_xt1)] := hx7.bx hBxt_6 (by omega)
  have hFxt_7 : ∀ oo, ((w6.alloc (Obj.cells #[.int .i64 a.kind, .int .i64 a.k, (.slice A_xa1 (a.x.monos).length c_xa1), (.slice A_xa2 (a.y.monos).length c_xa2)] 50))).frozen? ⟨w4.heap.size, oo, none⟩ = false := fun oo => (hx7.frozen (by omega)).trans (hFxt_6 oo)
  have hBxa_7 : Bx (w6.alloc (Obj.cells #[.int .i64 a.kind, .int .i64 a.k, (.slice A_xa1 (a.x.monos).length c_xa1), (.slice A_xa2 (a.y.monos).length c_xa2)] 50)) (w6.heap.size) [.int .i64 a.kind, .int .i64 a.k, (.slice A_xa1 (a.x.monos).length c_xa1), (.slice A_xa2 (a.y.monos).length c_xa2)] := by have := (by have := (Bx.new w6 #[.int .i64 a.kind, .int .i64 a.k, (.slice A_xa1 (a.x.monos).length c_xa1), (.slice A_xa2 (a.y.monos).length c_xa2)] 50); simpa using this); exact this
  have hFxa_7 : ∀ oo, ((w6.alloc (Obj.cells #[.int .i64 a.kind, .int .i64 a.k, (.slice A_xa1 (a.x.monos).length c_xa1), (.slice A_xa2 (a.y.monos).length c_xa2)] 50))).frozen? ⟨w6.heap.size, oo, none⟩ = false := fun oo => by simp
  generalize (w6.alloc (Obj.cells #[.int .i64 a.kind, .int .i64 a.k, (.slice A_xa1 (a.x.monos).length c_xa1), (.slice A_xa2 (a.y.monos).length c_xa2)] 50)) = w7 at *
  clear hBt_6 hFt_6 hBa_6 hFa_6 hBw_6 hFw_6 hBxt_6 hFxt_6
  refine (implTabPut_any t a _ _ _ _ ((OwnSl.up ho_xt1 (fr_xt.mk1 (Nat.le_refl _) (by omega)) (Ext.trans (Ext.trans hx5 hx6) hx7)).old (fr_xt.mk1 (Nat.le_refl _) (by omega))) ((OwnSl.up ho_xa1 (fr_xa.inl.mk1 (Nat.le_refl _) (by omega)) hx7).old (fr_xa.inl.mk1 (Nat.le_refl _) (by omega))) ((OwnSl.up ho_xa2 (fr_xa.inr.mk1 (Nat.le_refl _) (by omega)) hx7).old (fr_xa.inr.mk1 (Nat.le_refl _) (by omega))) hka (by omega) (by omega)).mono ?_
  rintro e w8 ⟨r_g1, F_g1, rfl, ho_g1, hf_g, hy⟩
  have hx8 : Ext w7 w8 := Ext.trans (Ext.auto) hy
  have hs8 := hx8.size
  have he8 : Ext w w8 := he7.trans hx8
  have hBt_8 : Bx w8 (w.heap.size) [(.slice At1 t.atoms.length ct1)] := hx8.bx hBt_7 (by omega)
  have hFt_8 : ∀ oo, w8.frozen? ⟨w.heap.size, oo, none⟩ = false := fun oo => (hx8.frozen (by omega)).trans (hFt_7 oo)
  have hBa_8 : Bx w8 (w.heap.size + 1) [.int .i64 a.kind, .int .i64 a.k, (.slice Aa1 a.x.monos.length ca1), (.slice Aa2 a.y.monos.length ca2)] := hx8.bx hBa_7 (by omega)
  have hFa_8 : ∀ oo, w8.frozen? ⟨w.heap.size + 1, oo, none⟩ = false := fun oo => (hx8.frozen (by omega)).trans (hFa_7 oo)
  have hBw_8 : Bx w8 (q_w) [(.slice A_w1 ((tabPut t a).atoms).length c_w1)] := hx8.bx hBw_7 (by omega)
  have hFw_8 : ∀ oo, w8.frozen? ⟨q_w, oo, none⟩ = false := fun oo => (hx8.frozen (by omega)).trans (hFw_7 oo)
  have hBxt_8 : Bx w8 (w4.heap.size) [(.slice A_xt1 (t.atoms).length c_xt1)] := hx8.bx hBxt_7 (by omega)
  have hFxt_8 : ∀ oo, w8.frozen? ⟨w4.heap.size, oo, none⟩ = false := fun oo => (hx8.frozen (by omega)).trans (hFxt_7 oo)
  have hBxa_8 : Bx w8 (w6.heap.size) [.int .i64 a.kind, .int .i64 a.k, (.slice A_xa1 (a.x.monos).length c_xa1), (.slice A_xa2 (a.y.monos).length c_xa2)] := hx8.bx hBxa_7 (by omega)
  have hFxa_8 : ∀ oo, w8.frozen? ⟨w6.heap.size, oo, none⟩ = false := fun oo => (hx8.frozen (by omega)).trans (hFxa_7 oo)
  clear hBt_7 hFt_7 hBa_7 hFa_7 hBw_7 hFw_7 hBxt_7 hFxt_7 hBxa_7 hFxa_7
  clear hy
  obtain ⟨A_g1, c_g1, rfl, -, -⟩ := ho_g1.sl.form
  have fr_g : Fr w7 w8 (F_g1) := hf_g.mk1 (by first | exact Nat.le_refl _ | (simp; done)) (Nat.le_refl _)
  clear hf_g
  have yw : q_w < w8.heap.size := by omega
  have xw0 : w8.cell? ⟨q_w, 0, none⟩ = some ((.slice A_w1 ((tabPut t a).atoms).length c_w1)) := hBw_8 0 _ rfl
  go_wp2_with fail
  clear xw0 yw
  have hx9 : Ext w8 (w8.alloc (Obj.cells #[(.slice A_g1 ((tabPut t a).atoms).length c_g1)] 24)) := (Ext.auto)
  have hs9 : w8.heap.size + 1 ≤ ((w8.alloc (Obj.cells #[(.slice A_g1 ((tabPut t a).atoms).length c_g1)] 24))).heap.size := by simp
  have he9 : Ext w (w8.alloc (Obj.cells #[(.slice A_g1 ((tabPut t a).atoms).length c_g1)] 24)) := he8.trans hx9
  have hBt_9 : Bx (w8.alloc (Obj.cells #[(.slice A_g1 ((tabPut t a).atoms).length c_g1)] 24)) (w.heap.size) [(.slice At1 t.atoms.length ct1)] := hx9.bx hBt_8 (by omega)
  have hFt_9 : ∀ oo, ((w8.alloc (Obj.cells #[(.slice A_g1 ((tabPut t a).atoms).length c_g1)] 24))).frozen? ⟨w.heap.size, oo, none⟩ = false := fun oo => (hx9.frozen (by omega)).trans (hFt_8 oo)
  have hBa_9 : Bx (w8.alloc (Obj.cells #[(.slice A_g1 ((tabPut t a).atoms).length c_g1)] 24)) (w.heap.size + 1) [.int .i64 a.kind, .int .i64 a.k, (.slice Aa1 a.x.monos.length ca1), (.slice Aa2 a.y.monos.length ca2)] := hx9.bx hBa_8 (by omega)
  have hFa_9 : ∀ oo, ((w8.alloc (Obj.cells #[(.slice A_g1 ((tabPut t a).atoms).length c_g1)] 24))).frozen? ⟨w.heap.size + 1, oo, none⟩ = false := fun oo => (hx9.frozen (by omega)).trans (hFa_8 oo)
  have hBw_9 : Bx (w8.alloc (Obj.cells #[(.slice A_g1 ((tabPut t a).atoms).length c_g1)] 24)) (q_w) [(.slice A_w1 ((tabPut t a).atoms).length c_w1)] := hx9.bx hBw_8 (by omega)
  have hFw_9 : ∀ oo, ((w8.alloc (Obj.cells #[(.slice A_g1 ((tabPut t a).atoms).length c_g1)] 24))).frozen? ⟨q_w, oo, none⟩ = false := fun oo => (hx9.frozen (by omega)).trans (hFw_8 oo)
  have hBxt_9 : Bx (w8.alloc (Obj.cells #[(.slice A_g1 ((tabPut t a).atoms).length c_g1)] 24)) (w4.heap.size) [(.slice A_xt1 (t.atoms).length c_xt1)] := hx9.bx hBxt_8 (by omega)
  have hFxt_9 : ∀ oo, ((w8.alloc (Obj.cells #[(.slice A_g1 ((tabPut t a).atoms).length c_g1)] 24))).frozen? ⟨w4.heap.size, oo, none⟩ = false := fun oo => (hx9.frozen (by omega)).trans (hFxt_8 oo)
  have hBxa_9 : Bx (w8.alloc (Obj.cells #[(.slice A_g1 ((tabPut t a).atoms).length c_g1)] 24)) (w6.heap.size) [.int .i64 a.kind, .int .i64 a.k, (.slice A_xa1 (a.x.monos).length c_xa1), (.slice A_xa2 (a.y.monos).length c_xa2)] := hx9.bx hBxa_8 (by omega)
  have hFxa_9 : ∀ oo, ((w8.alloc (Obj.cells #[(.slice A_g1 ((tabPut t a).atoms).length c_g1)] 24))).frozen? ⟨w6.heap.size, oo, none⟩ = false := fun oo => (hx9.frozen (by omega)).trans (hFxa_8 oo)
  have hBg_9 : Bx (w8.alloc (Obj.cells #[(.slice A_g1 ((tabPut t a).atoms).length c_g1)] 24)) (w8.heap.size) [(.slice A_g1 ((tabPut t a).atoms).length c_g1)] := by have := (by have := (Bx.new w8 #[(.slice A_g1 ((tabPut t a).atoms).length c_g1)] 24); simpa using this); exact this
  have hFg_9 : ∀ oo, ((w8.alloc (Obj.cells #[(.slice A_g1 ((tabPut t a).atoms).length c_g1)] 24))).frozen? ⟨w8.heap.size, oo, none⟩ = false := fun oo => by simp
  generalize (w8.alloc (Obj.cells #[(.slice A_g1 ((tabPut t a).atoms).length c_g1)] 24)) = w9 at *
  clear hBt_8 hFt_8 hBa_8 hFa_8 hBw_8 hFw_8 hBxt_8 hFxt_8 hBxa_8 hFxa_8
  refine (eq_TabTab ((tabPut t a)) ((tabPut t a)) _ _  _ ((OwnSl.up ho_g1 (fr_g.mk1 (Nat.le_refl _) (by omega)) hx9).old (fr_g.mk1 (Nat.le_refl _) (by omega))) ((OwnSl.up ho_w1 (fr_w.mk1 (Nat.le_refl _) (by omega)) (Ext.trans (Ext.trans (Ext.trans (Ext.trans (Ext.trans hx4 hx5) hx6) hx7) hx8) hx9)).old (fr_w.mk1 (Nat.le_refl _) (by omega)))).mono ?_
  rintro e w10 ⟨rfl, hy⟩
  have hx10 : Ext w9 w10 := Ext.trans (Ext.auto) hy
  have hs10 := hx10.size
  have he10 : Ext w w10 := he9.trans hx10
  have hBt_10 : Bx w10 (w.heap.size) [(.slice At1 t.atoms.length ct1)] := hx10.bx hBt_9 (by omega)
  have hFt_10 : ∀ oo, w10.frozen? ⟨w.heap.size, oo, none⟩ = false := fun oo => (hx10.frozen (by omega)).trans (hFt_9 oo)
  have hBa_10 : Bx w10 (w.heap.size + 1) [.int .i64 a.kind, .int .i64 a.k, (.slice Aa1 a.x.monos.length ca1), (.slice Aa2 a.y.monos.length ca2)] := hx10.bx hBa_9 (by omega)
  have hFa_10 : ∀ oo, w10.frozen? ⟨w.heap.size + 1, oo, none⟩ = false := fun oo => (hx10.frozen (by omega)).trans (hFa_9 oo)
  have hBw_10 : Bx w10 (q_w) [(.slice A_w1 ((tabPut t a).atoms).length c_w1)] := hx10.bx hBw_9 (by omega)
  have hFw_10 : ∀ oo, w10.frozen? ⟨q_w, oo, none⟩ = false := fun oo => (hx10.frozen (by omega)).trans (hFw_9 oo)
  have hBxt_10 : Bx w10 (w4.heap.size) [(.slice A_xt1 (t.atoms).length c_xt1)] := hx10.bx hBxt_9 (by omega)
  have hFxt_10 : ∀ oo, w10.frozen? ⟨w4.heap.size, oo, none⟩ = false := fun oo => (hx10.frozen (by omega)).trans (hFxt_9 oo)
  have hBxa_10 : Bx w10 (w6.heap.size) [.int .i64 a.kind, .int .i64 a.k, (.slice A_xa1 (a.x.monos).length c_xa1), (.slice A_xa2 (a.y.monos).length c_xa2)] := hx10.bx hBxa_9 (by omega)
  have hFxa_10 : ∀ oo, w10.frozen? ⟨w6.heap.size, oo, none⟩ = false := fun oo => (hx10.frozen (by omega)).trans (hFxa_9 oo)
  have hBg_10 : Bx w10 (w8.heap.size) [(.slice A_g1 ((tabPut t a).atoms).length c_g1)] := hx10.bx hBg_9 (by omega)
  have hFg_10 : ∀ oo, w10.frozen? ⟨w8.heap.size, oo, none⟩ = false := fun oo => (hx10.frozen (by omega)).trans (hFg_9 oo)
  clear hBt_9 hFt_9 hBa_9 hFa_9 hBw_9 hFw_9 hBxt_9 hFxt_9 hBxa_9 hFxa_9 hBg_9 hFg_9
  clear hy
  go_wp2_with fail
  have yxt : w4.heap.size < w10.heap.size := by omega
  have xxt0 : w10.cell? ⟨w4.heap.size, 0, none⟩ = some ((.slice A_xt1 (t.atoms).length c_xt1)) := hBxt_10 0 _ rfl
  have yt : w.heap.size < w10.heap.size := by omega
  have xt0 : w10.cell? ⟨w.heap.size, 0, none⟩ = some ((.slice At1 t.atoms.length ct1)) := hBt_10 0 _ rfl
  have hS : ∀ w', Ext w10 w' → ∀ bb oo, bb < w10.heap.size → w'.cell? ⟨bb, oo, none⟩ = w10.cell? ⟨bb, oo, none⟩ := fun w' hx bb oo hb => hx.cell hb
  refine wp_region_plan (fun w' => Ext w10 w') 3 (.float 0 (.float 1 (.chain 2 (.tail 3)))) (by kernel_rfl) (by kernel_rfl) (Ext.refl _).drew ?_
  iterate 2 ((refine Plan.float_step (v := ?_) rfl (by rfl) (fun _ _ _ h => h) (fun w' hSw => ?_) ?_; rotate_left; · (go_simp; try with_reducible rfl)); (try simp only [Act.put, List.setIfInBounds_toArray, List.set_cons_zero, List.set_cons_succ]))
  refine Plan.chain_step rfl (fun K hK => ?_)
  go_simp
  refine (to_TabTab t _ _ (ht1.ext (Ext.trans he10 (Ext.auto))) nt).mono ?_
  rintro e w11 ⟨r_yt1, F_yt1, rfl, ho_yt1, hf_yt, hy⟩
  refine hK.out _ _ (Ext.trans (Ext.auto) hy) ?_
  clear hK
  (try simp only [Act.put, List.setIfInBounds_toArray, List.set_cons_zero, List.set_cons_succ])
  have hx11 : Ext w10 w11 := Ext.trans (Ext.auto) hy
  have hs11 := hx11.size
  have he11 : Ext w w11 := he10.trans hx11
  have hBt_11 : Bx w11 (w.heap.size) [(.slice At1 t.atoms.length ct1)] := hx11.bx hBt_10 (by omega)
  have hFt_11 : ∀ oo, w11.frozen? ⟨w.heap.size, oo, none⟩ = false := fun oo => (hx11.frozen (by omega)).trans (hFt_10 oo)
  have hBa_11 : Bx w11 (w.heap.size + 1) [.int .i64 a.kind, .int .i64 a.k, (.slice Aa1 a.x.monos.length ca1), (.slice Aa2 a.y.monos.length ca2)] := hx11.bx hBa_10 (by omega)
  have hFa_11 : ∀ oo, w11.frozen? ⟨w.heap.size + 1, oo, none⟩ = false := fun oo => (hx11.frozen (by omega)).trans (hFa_10 oo)
  have hBw_11 : Bx w11 (q_w) [(.slice A_w1 ((tabPut t a).atoms).length c_w1)] := hx11.bx hBw_10 (by omega)
  have hFw_11 : ∀ oo, w11.frozen? ⟨q_w, oo, none⟩ = false := fun oo => (hx11.frozen (by omega)).trans (hFw_10 oo)
  have hBxt_11 : Bx w11 (w4.heap.size) [(.slice A_xt1 (t.atoms).length c_xt1)] := hx11.bx hBxt_10 (by omega)
  have hFxt_11 : ∀ oo, w11.frozen? ⟨w4.heap.size, oo, none⟩ = false := fun oo => (hx11.frozen (by omega)).trans (hFxt_10 oo)
  have hBxa_11 : Bx w11 (w6.heap.size) [.int .i64 a.kind, .int .i64 a.k, (.slice A_xa1 (a.x.monos).length c_xa1), (.slice A_xa2 (a.y.monos).length c_xa2)] := hx11.bx hBxa_10 (by omega)
  have hFxa_11 : ∀ oo, w11.frozen? ⟨w6.heap.size, oo, none⟩ = false := fun oo => (hx11.frozen (by omega)).trans (hFxa_10 oo)
  have hBg_11 : Bx w11 (w8.heap.size) [(.slice A_g1 ((tabPut t a).atoms).length c_g1)] := hx11.bx hBg_10 (by omega)
  have hFg_11 : ∀ oo, w11.frozen? ⟨w8.heap.size, oo, none⟩ = false := fun oo => (hx11.frozen (by omega)).trans (hFg_10 oo)
  clear hBt_10 hFt_10 hBa_10 hFa_10 hBw_10 hFw_10 hBxt_10 hFxt_10 hBxa_10 hFxa_10 hBg_10 hFg_10
  clear hy
  obtain ⟨A_yt1, c_yt1, rfl, -, -⟩ := ho_yt1.sl.form
  have fr_yt : Fr w10 w11 (F_yt1) := hf_yt.mk1 (by first | exact Nat.le_refl _ | (simp; done)) (Nat.le_refl _)
  clear hf_yt
  refine Plan.tail_step ?_
  simp only [List.drop_succ_cons, List.drop_zero]
  clear hS
  clear xxt0 yxt
  clear xt0 yt
  go_wp2_with fail
  refine (eq_TabTab t t _ _  _ ((OwnSl.up ho_xt1 (fr_xt.mk1 (Nat.le_refl _) (by omega)) (Ext.trans (Ext.trans (Ext.trans (Ext.trans (Ext.trans (Ext.trans hx5 hx6) hx7) hx8) hx9) hx10) hx11)).old (fr_xt.mk1 (Nat.le_refl _) (by omega))) ((OwnSl.up ho_yt1 (fr_yt.mk1 (Nat.le_refl _) (by omega)) (Ext.refl _)).old (fr_yt.mk1 (Nat.le_refl _) (by omega)))).mono ?_
  rintro e w12 ⟨rfl, hy⟩
  have hx12 : Ext w11 w12 := Ext.trans (Ext.auto) hy
  have hs12 := hx12.size
  have he12 : Ext w w12 := he11.trans hx12
  have hBt_12 : Bx w12 (w.heap.size) [(.slice At1 t.atoms.length ct1)] := hx12.bx hBt_11 (by omega)
  have hFt_12 : ∀ oo, w12.frozen? ⟨w.heap.size, oo, none⟩ = false := fun oo => (hx12.frozen (by omega)).trans (hFt_11 oo)
  have hBa_12 : Bx w12 (w.heap.size + 1) [.int .i64 a.kind, .int .i64 a.k, (.slice Aa1 a.x.monos.length ca1), (.slice Aa2 a.y.monos.length ca2)] := hx12.bx hBa_11 (by omega)
  have hFa_12 : ∀ oo, w12.frozen? ⟨w.heap.size + 1, oo, none⟩ = false := fun oo => (hx12.frozen (by omega)).trans (hFa_11 oo)
  have hBw_12 : Bx w12 (q_w) [(.slice A_w1 ((tabPut t a).atoms).length c_w1)] := hx12.bx hBw_11 (by omega)
  have hFw_12 : ∀ oo, w12.frozen? ⟨q_w, oo, none⟩ = false := fun oo => (hx12.frozen (by omega)).trans (hFw_11 oo)
  have hBxt_12 : Bx w12 (w4.heap.size) [(.slice A_xt1 (t.atoms).length c_xt1)] := hx12.bx hBxt_11 (by omega)
  have hFxt_12 : ∀ oo, w12.frozen? ⟨w4.heap.size, oo, none⟩ = false := fun oo => (hx12.frozen (by omega)).trans (hFxt_11 oo)
  have hBxa_12 : Bx w12 (w6.heap.size) [.int .i64 a.kind, .int .i64 a.k, (.slice A_xa1 (a.x.monos).length c_xa1), (.slice A_xa2 (a.y.monos).length c_xa2)] := hx12.bx hBxa_11 (by omega)
  have hFxa_12 : ∀ oo, w12.frozen? ⟨w6.heap.size, oo, none⟩ = false := fun oo => (hx12.frozen (by omega)).trans (hFxa_11 oo)
  have hBg_12 : Bx w12 (w8.heap.size) [(.slice A_g1 ((tabPut t a).atoms).length c_g1)] := hx12.bx hBg_11 (by omega)
  have hFg_12 : ∀ oo, w12.frozen? ⟨w8.heap.size, oo, none⟩ = false := fun oo => (hx12.frozen (by omega)).trans (hFg_11 oo)
  clear hBt_11 hFt_11 hBa_11 hFa_11 hBw_11 hFw_11 hBxt_11 hFxt_11 hBxa_11 hFxa_11 hBg_11 hFg_11
  clear hy
  clear ho_yt1 fr_yt
  go_wp2_with fail
  have yxa : w6.heap.size < w12.heap.size := by omega
  have xxa0 := hBxa_12 0 _ rfl
  have xxa1 := hBxa_12 1 _ rfl
  have xxa2 := hBxa_12 2 _ rfl
  have xxa3 := hBxa_12 3 _ rfl
  have ya : w.heap.size + 1 < w12.heap.size := by omega
  have xa0 := hBa_12 0 _ rfl
  have xa1 := hBa_12 1 _ rfl
  have xa2 := hBa_12 2 _ rfl
  have xa3 := hBa_12 3 _ rfl
  have hS : ∀ w', Ext w12 w' → ∀ bb oo, bb < w12.heap.size → w'.cell? ⟨bb, oo, none⟩ = w12.cell? ⟨bb, oo, none⟩ := fun w' hx bb oo hb => hx.cell hb
  refine wp_region_plan (fun w' => Ext w12 w') 3 (.float 0 (.float 1 (.chain 2 (.tail 3)))) (by kernel_rfl) (by kernel_rfl) (Ext.refl _).drew ?_
  iterate 2 ((refine Plan.float_step (v := ?_) rfl (by rfl) (fun _ _ _ h => h) (fun w' hSw => ?_) ?_; rotate_left; · (go_simp; try with_reducible rfl)); (try simp only [Act.put, List.setIfInBounds_toArray, List.set_cons_zero, List.set_cons_succ]))
  refine Plan.chain_step rfl (fun K hK => ?_)
  go_simp
  refine (to_TabAtom a _ _ _ (ha1.ext (Ext.trans he12 (Ext.auto))) (ha2.ext (Ext.trans he12 (Ext.auto))) na).mono ?_
  rintro e w13 ⟨r_ya1, r_ya2, F_ya1, F_ya2, rfl, ho_ya1, ho_ya2, hf_ya, hy⟩
  refine hK.out _ _ (Ext.trans (Ext.auto) hy) ?_
  clear hK
  (try simp only [Act.put, List.setIfInBounds_toArray, List.set_cons_zero, List.set_cons_succ])
  have hx13 : Ext w12 w13 := Ext.trans (Ext.auto) hy
  have hs13 := hx13.size
  have he13 : Ext w w13 := he12.trans hx13
  have hBt_13 : Bx w13 (w.heap.size) [(.slice At1 t.atoms.length ct1)] := hx13.bx hBt_12 (by omega)
  have hFt_13 : ∀ oo, w13.frozen? ⟨w.heap.size, oo, none⟩ = false := fun oo => (hx13.frozen (by omega)).trans (hFt_12 oo)
  have hBa_13 : Bx w13 (w.heap.size + 1) [.int .i64 a.kind, .int .i64 a.k, (.slice Aa1 a.x.monos.length ca1), (.slice Aa2 a.y.monos.length ca2)] := hx13.bx hBa_12 (by omega)
  have hFa_13 : ∀ oo, w13.frozen? ⟨w.heap.size + 1, oo, none⟩ = false := fun oo => (hx13.frozen (by omega)).trans (hFa_12 oo)
  have hBw_13 : Bx w13 (q_w) [(.slice A_w1 ((tabPut t a).atoms).length c_w1)] := hx13.bx hBw_12 (by omega)
  have hFw_13 : ∀ oo, w13.frozen? ⟨q_w, oo, none⟩ = false := fun oo => (hx13.frozen (by omega)).trans (hFw_12 oo)
  have hBxt_13 : Bx w13 (w4.heap.size) [(.slice A_xt1 (t.atoms).length c_xt1)] := hx13.bx hBxt_12 (by omega)
  have hFxt_13 : ∀ oo, w13.frozen? ⟨w4.heap.size, oo, none⟩ = false := fun oo => (hx13.frozen (by omega)).trans (hFxt_12 oo)
  have hBxa_13 : Bx w13 (w6.heap.size) [.int .i64 a.kind, .int .i64 a.k, (.slice A_xa1 (a.x.monos).length c_xa1), (.slice A_xa2 (a.y.monos).length c_xa2)] := hx13.bx hBxa_12 (by omega)
  have hFxa_13 : ∀ oo, w13.frozen? ⟨w6.heap.size, oo, none⟩ = false := fun oo => (hx13.frozen (by omega)).trans (hFxa_12 oo)
  have hBg_13 : Bx w13 (w8.heap.size) [(.slice A_g1 ((tabPut t a).atoms).length c_g1)] := hx13.bx hBg_12 (by omega)
  have hFg_13 : ∀ oo, w13.frozen? ⟨w8.heap.size, oo, none⟩ = false := fun oo => (hx13.frozen (by omega)).trans (hFg_12 oo)
  clear hBt_12 hFt_12 hBa_12 hFa_12 hBw_12 hFw_12 hBxt_12 hFxt_12 hBxa_12 hFxa_12 hBg_12 hFg_12
  clear hy
  obtain ⟨A_ya1, c_ya1, rfl, -, -⟩ := ho_ya1.sl.form
  obtain ⟨A_ya2, c_ya2, rfl, -, -⟩ := ho_ya2.sl.form
  have fr_ya : Fr w12 w13 (F_ya1 ++ F_ya2) := hf_ya.mk1 (by first | exact Nat.le_refl _ | (simp; done)) (Nat.le_refl _)
  clear hf_ya
  refine Plan.tail_step ?_
  simp only [List.drop_succ_cons, List.drop_zero]
  clear hS
  clear xxa0 xxa1 xxa2 xxa3 yxa
  clear xa0 xa1 xa2 xa3 ya
  go_wp2_with fail
  refine (eq_TabAtom a a _ _ _ _  _ ((OwnSl.up ho_xa1 (fr_xa.inl.mk1 (Nat.le_refl _) (by omega)) (Ext.trans (Ext.trans (Ext.trans (Ext.trans (Ext.trans (Ext.trans hx7 hx8) hx9) hx10) hx11) hx12) hx13)).old (fr_xa.inl.mk1 (Nat.le_refl _) (by omega))) ((OwnSl.up ho_xa2 (fr_xa.inr.mk1 (Nat.le_refl _) (by omega)) (Ext.trans (Ext.trans (Ext.trans (Ext.trans (Ext.trans (Ext.trans hx7 hx8) hx9) hx10) hx11) hx12) hx13)).old (fr_xa.inr.mk1 (Nat.le_refl _) (by omega))) ((OwnSl.up ho_ya1 (fr_ya.inl.mk1 (Nat.le_refl _) (by omega)) (Ext.refl _)).old (fr_ya.inl.mk1 (Nat.le_refl _) (by omega))) ((OwnSl.up ho_ya2 (fr_ya.inr.mk1 (Nat.le_refl _) (by omega)) (Ext.refl _)).old (fr_ya.inr.mk1 (Nat.le_refl _) (by omega)))).mono ?_
  rintro e w14 ⟨rfl, hy⟩
  have hx14 : Ext w13 w14 := Ext.trans (Ext.auto) hy
  have hs14 := hx14.size
  have he14 : Ext w w14 := he13.trans hx14
  have hBt_14 : Bx w14 (w.heap.size) [(.slice At1 t.atoms.length ct1)] := hx14.bx hBt_13 (by omega)
  have hFt_14 : ∀ oo, w14.frozen? ⟨w.heap.size, oo, none⟩ = false := fun oo => (hx14.frozen (by omega)).trans (hFt_13 oo)
  have hBa_14 : Bx w14 (w.heap.size + 1) [.int .i64 a.kind, .int .i64 a.k, (.slice Aa1 a.x.monos.length ca1), (.slice Aa2 a.y.monos.length ca2)] := hx14.bx hBa_13 (by omega)
  have hFa_14 : ∀ oo, w14.frozen? ⟨w.heap.size + 1, oo, none⟩ = false := fun oo => (hx14.frozen (by omega)).trans (hFa_13 oo)
  have hBw_14 : Bx w14 (q_w) [(.slice A_w1 ((tabPut t a).atoms).length c_w1)] := hx14.bx hBw_13 (by omega)
  have hFw_14 : ∀ oo, w14.frozen? ⟨q_w, oo, none⟩ = false := fun oo => (hx14.frozen (by omega)).trans (hFw_13 oo)
  have hBxt_14 : Bx w14 (w4.heap.size) [(.slice A_xt1 (t.atoms).length c_xt1)] := hx14.bx hBxt_13 (by omega)
  have hFxt_14 : ∀ oo, w14.frozen? ⟨w4.heap.size, oo, none⟩ = false := fun oo => (hx14.frozen (by omega)).trans (hFxt_13 oo)
  have hBxa_14 : Bx w14 (w6.heap.size) [.int .i64 a.kind, .int .i64 a.k, (.slice A_xa1 (a.x.monos).length c_xa1), (.slice A_xa2 (a.y.monos).length c_xa2)] := hx14.bx hBxa_13 (by omega)
  have hFxa_14 : ∀ oo, w14.frozen? ⟨w6.heap.size, oo, none⟩ = false := fun oo => (hx14.frozen (by omega)).trans (hFxa_13 oo)
  have hBg_14 : Bx w14 (w8.heap.size) [(.slice A_g1 ((tabPut t a).atoms).length c_g1)] := hx14.bx hBg_13 (by omega)
  have hFg_14 : ∀ oo, w14.frozen? ⟨w8.heap.size, oo, none⟩ = false := fun oo => (hx14.frozen (by omega)).trans (hFg_13 oo)
  clear hBt_13 hFt_13 hBa_13 hFa_13 hBw_13 hFw_13 hBxt_13 hFxt_13 hBxa_13 hFxa_13 hBg_13 hFg_13
  clear hy
  clear ho_ya1 ho_ya2 fr_ya
  have hct_xt := TabTab.ctV_le (t)
  have yxt : w4.heap.size < w14.heap.size := by omega
  have xxt0 : w14.cell? ⟨w4.heap.size, 0, none⟩ = some ((.slice A_xt1 (t.atoms).length c_xt1)) := hBxt_14 0 _ rfl
  go_wp2_with fail
  clear xxt0 yxt
  refine (mark_TabTab (t) _ _ (1) _ (OwnSl.up ho_xt1 (fr_xt.mk1 (Nat.le_refl _) (by omega)) (Ext.trans (Ext.trans (Ext.trans (Ext.trans (Ext.trans (Ext.trans (Ext.trans (Ext.trans (Ext.trans hx5 hx6) hx7) hx8) hx9) hx10) hx11) hx12) hx13) hx14)) fr_xt.1 (fun x hx => by have := (fr_xt.2 x hx).2; omega) (by omega) (by omega)).mono ?_
  rintro e w15 ⟨rfl, hm_xt1, hy⟩
  have hc15 : Chg F_xt1 w14 w15 := hy
  have hs15 := hc15.size
  have he15 : Ext w w15 := Chg.ext he14 hc15 (fun x hx => by have := (fr_xt.2 x hx).1; omega)
  have hBt_15 : Bx w15 (w.heap.size) [(.slice At1 t.atoms.length ct1)] := fun j u hu => (hc15.cell (by omega) (by intro hm; have := (fr_xt.2 _ hm); have h1 := this.1; have h2 := this.2; omega)).trans (hBt_14 j u hu)
  have hFt_15 : ∀ oo, w15.frozen? ⟨w.heap.size, oo, none⟩ = false := fun oo => (hc15.frozen _ _ (by omega)).trans (hFt_14 oo)
  have hBa_15 : Bx w15 (w.heap.size + 1) [.int .i64 a.kind, .int .i64 a.k, (.slice Aa1 a.x.monos.length ca1), (.slice Aa2 a.y.monos.length ca2)] := fun j u hu => (hc15.cell (by omega) (by intro hm; have := (fr_xt.2 _ hm); have h1 := this.1; have h2 := this.2; omega)).trans (hBa_14 j u hu)
  have hFa_15 : ∀ oo, w15.frozen? ⟨w.heap.size + 1, oo, none⟩ = false := fun oo => (hc15.frozen _ _ (by omega)).trans (hFa_14 oo)
  have hBw_15 : Bx w15 (q_w) [(.slice A_w1 ((tabPut t a).atoms).length c_w1)] := fun j u hu => (hc15.cell (by omega) (by intro hm; have := (fr_xt.2 _ hm); have h1 := this.1; have h2 := this.2; omega)).trans (hBw_14 j u hu)
  have hFw_15 : ∀ oo, w15.frozen? ⟨q_w, oo, none⟩ = false := fun oo => (hc15.frozen _ _ (by omega)).trans (hFw_14 oo)
  have hBxt_15 : Bx w15 (w4.heap.size) [(.slice A_xt1 (t.atoms).length c_xt1)] := fun j u hu => (hc15.cell (by omega) (by intro hm; have := (fr_xt.2 _ hm); have h1 := this.1; have h2 := this.2; omega)).trans (hBxt_14 j u hu)
  have hFxt_15 : ∀ oo, w15.frozen? ⟨w4.heap.size, oo, none⟩ = false := fun oo => (hc15.frozen _ _ (by omega)).trans (hFxt_14 oo)
  have hBxa_15 : Bx w15 (w6.heap.size) [.int .i64 a.kind, .int .i64 a.k, (.slice A_xa1 (a.x.monos).length c_xa1), (.slice A_xa2 (a.y.monos).length c_xa2)] := fun j u hu => (hc15.cell (by omega) (by intro hm; have := (fr_xt.2 _ hm); have h1 := this.1; have h2 := this.2; omega)).trans (hBxa_14 j u hu)
  have hFxa_15 : ∀ oo, w15.frozen? ⟨w6.heap.size, oo, none⟩ = false := fun oo => (hc15.frozen _ _ (by omega)).trans (hFxa_14 oo)
  have hBg_15 : Bx w15 (w8.heap.size) [(.slice A_g1 ((tabPut t a).atoms).length c_g1)] := fun j u hu => (hc15.cell (by omega) (by intro hm; have := (fr_xt.2 _ hm); have h1 := this.1; have h2 := this.2; omega)).trans (hBg_14 j u hu)
  have hFg_15 : ∀ oo, w15.frozen? ⟨w8.heap.size, oo, none⟩ = false := fun oo => (hc15.frozen _ _ (by omega)).trans (hFg_14 oo)
  clear hBt_14 hFt_14 hBa_14 hFa_14 hBw_14 hFw_14 hBxt_14 hFxt_14 hBxa_14 hFxa_14 hBg_14 hFg_14
  have ho_w1' := (OwnSl.up ho_w1 (fr_w.mk1 (Nat.le_refl _) (by omega)) (Ext.trans (Ext.trans (Ext.trans (Ext.trans (Ext.trans (Ext.trans (Ext.trans (Ext.trans (Ext.trans (Ext.trans hx4 hx5) hx6) hx7) hx8) hx9) hx10) hx11) hx12) hx13) hx14)).past fr_w (by omega) hc15 (fun x hx => (fr_w.apart fr_xt (by omega)) x (by simp [hx]))
  clear ho_w1
  have ho_w1 := ho_w1'
  clear ho_w1'
  have ho_xa1' := (OwnSl.up ho_xa1 (fr_xa.inl.mk1 (Nat.le_refl _) (by omega)) (Ext.trans (Ext.trans (Ext.trans (Ext.trans (Ext.trans (Ext.trans (Ext.trans hx7 hx8) hx9) hx10) hx11) hx12) hx13) hx14)).past fr_xa.inl (by omega) hc15 (fun x hx => (fr_xa.apart' fr_xt (by omega)) x (by simp [hx]))
  clear ho_xa1
  have ho_xa1 := ho_xa1'
  clear ho_xa1'
  have ho_xa2' := (OwnSl.up ho_xa2 (fr_xa.inr.mk1 (Nat.le_refl _) (by omega)) (Ext.trans (Ext.trans (Ext.trans (Ext.trans (Ext.trans (Ext.trans (Ext.trans hx7 hx8) hx9) hx10) hx11) hx12) hx13) hx14)).past fr_xa.inr (by omega) hc15 (fun x hx => (fr_xa.apart' fr_xt (by omega)) x (by simp [hx]))
  clear ho_xa2
  have ho_xa2 := ho_xa2'
  clear ho_xa2'
  have ho_g1' := (OwnSl.up ho_g1 (fr_g.mk1 (Nat.le_refl _) (by omega)) (Ext.trans (Ext.trans (Ext.trans (Ext.trans (Ext.trans hx9 hx10) hx11) hx12) hx13) hx14)).past fr_g (by omega) hc15 (fun x hx => (fr_g.apart' fr_xt (by omega)) x (by simp [hx]))
  clear ho_g1
  have ho_g1 := ho_g1'
  clear ho_g1'
  clear hy
  have hct_xa := TabAtom.ctV_le (a)
  have yxa : w6.heap.size < w15.heap.size := by omega
  have xxa0 := hBxa_15 0 _ rfl
  have xxa1 := hBxa_15 1 _ rfl
  have xxa2 := hBxa_15 2 _ rfl
  have xxa3 := hBxa_15 3 _ rfl
  go_wp2_with fail
  clear xxa0 xxa1 xxa2 xxa3 yxa
  refine (mark_TabAtom (a) _ _ _ _ (1 + ((TabTab.ctV (t) : Nat) : Int)) _ (OwnSl.up ho_xa1 (fr_xa.inl.mk1 (Nat.le_refl _) (by omega)) (Ext.refl _)) (OwnSl.up ho_xa2 (fr_xa.inr.mk1 (Nat.le_refl _) (by omega)) (Ext.refl _)) fr_xa.1 (fun x hx => by have := (fr_xa.2 x hx).2; omega) (by omega) (by omega)).mono ?_
  rintro e w16 ⟨rfl, hm_xa1, hm_xa2, hy⟩
  have hc16 : Chg (F_xa1 ++ F_xa2) w15 w16 := hy
  have hs16 := hc16.size
  have he16 : Ext w w16 := Chg.ext he15 hc16 (fun x hx => by have := (fr_xa.2 x hx).1; omega)
  have hBt_16 : Bx w16 (w.heap.size) [(.slice At1 t.atoms.length ct1)] := fun j u hu => (hc16.cell (by omega) (by intro hm; have := (fr_xa.2 _ hm); have h1 := this.1; have h2 := this.2; omega)).trans (hBt_15 j u hu)
  have hFt_16 : ∀ oo, w16.frozen? ⟨w.heap.size, oo, none⟩ = false := fun oo => (hc16.frozen _ _ (by omega)).trans (hFt_15 oo)
  have hBa_16 : Bx w16 (w.heap.size + 1) [.int .i64 a.kind, .int .i64 a.k, (.slice Aa1 a.x.monos.length ca1), (.slice Aa2 a.y.monos.length ca2)] := fun j u hu => (hc16.cell (by omega) (by intro hm; have := (fr_xa.2 _ hm); have h1 := this.1; have h2 := this.2; omega)).trans (hBa_15 j u hu)
  have hFa_16 : ∀ oo, w16.frozen? ⟨w.heap.size + 1, oo, none⟩ = false := fun oo => (hc16.frozen _ _ (by omega)).trans (hFa_15 oo)
  have hBw_16 : Bx w16 (q_w) [(.slice A_w1 ((tabPut t a).atoms).length c_w1)] := fun j u hu => (hc16.cell (by omega) (by intro hm; have := (fr_xa.2 _ hm); have h1 := this.1; have h2 := this.2; omega)).trans (hBw_15 j u hu)
  have hFw_16 : ∀ oo, w16.frozen? ⟨q_w, oo, none⟩ = false := fun oo => (hc16.frozen _ _ (by omega)).trans (hFw_15 oo)
  have hBxt_16 : Bx w16 (w4.heap.size) [(.slice A_xt1 (t.atoms).length c_xt1)] := fun j u hu => (hc16.cell (by omega) (by intro hm; have := (fr_xa.2 _ hm); have h1 := this.1; have h2 := this.2; omega)).trans (hBxt_15 j u hu)
  have hFxt_16 : ∀ oo, w16.frozen? ⟨w4.heap.size, oo, none⟩ = false := fun oo => (hc16.frozen _ _ (by omega)).trans (hFxt_15 oo)
  have hBxa_16 : Bx w16 (w6.heap.size) [.int .i64 a.kind, .int .i64 a.k, (.slice A_xa1 (a.x.monos).length c_xa1), (.slice A_xa2 (a.y.monos).length c_xa2)] := fun j u hu => (hc16.cell (by omega) (by intro hm; have := (fr_xa.2 _ hm); have h1 := this.1; have h2 := this.2; omega)).trans (hBxa_15 j u hu)
  have hFxa_16 : ∀ oo, w16.frozen? ⟨w6.heap.size, oo, none⟩ = false := fun oo => (hc16.frozen _ _ (by omega)).trans (hFxa_15 oo)
  have hBg_16 : Bx w16 (w8.heap.size) [(.slice A_g1 ((tabPut t a).atoms).length c_g1)] := fun j u hu => (hc16.cell (by omega) (by intro hm; have := (fr_xa.2 _ hm); have h1 := this.1; have h2 := this.2; omega)).trans (hBg_15 j u hu)
  have hFg_16 : ∀ oo, w16.frozen? ⟨w8.heap.size, oo, none⟩ = false := fun oo => (hc16.frozen _ _ (by omega)).trans (hFg_15 oo)
  clear hBt_15 hFt_15 hBa_15 hFa_15 hBw_15 hFw_15 hBxt_15 hFxt_15 hBxa_15 hFxa_15 hBg_15 hFg_15
  have ho_w1' := (OwnSl.up ho_w1 (fr_w.mk1 (Nat.le_refl _) (by omega)) (Ext.refl _)).past fr_w (by omega) hc16 (fun x hx => (fr_w.apart fr_xa (by omega)) x (by simp [hx]))
  clear ho_w1
  have ho_w1 := ho_w1'
  clear ho_w1'
  have hm_xt1' := (OwnSl.up hm_xt1 (fr_xt.mk1 (Nat.le_refl _) (by omega)) (Ext.refl _)).past fr_xt (by omega) hc16 (fun x hx => (fr_xt.apart fr_xa (by omega)) x (by simp [hx]))
  clear hm_xt1
  have hm_xt1 := hm_xt1'
  clear hm_xt1'
  have ho_g1' := (OwnSl.up ho_g1 (fr_g.mk1 (Nat.le_refl _) (by omega)) (Ext.refl _)).past fr_g (by omega) hc16 (fun x hx => (fr_g.apart' fr_xa (by omega)) x (by simp [hx]))
  clear ho_g1
  have ho_g1 := ho_g1'
  clear ho_g1'
  clear hy
  have yg : w8.heap.size < w16.heap.size := by omega
  have xg0 : w16.cell? ⟨w8.heap.size, 0, none⟩ = some ((.slice A_g1 ((tabPut t a).atoms).length c_g1)) := hBg_16 0 _ rfl
  have yw : q_w < w16.heap.size := by omega
  have xw0 : w16.cell? ⟨q_w, 0, none⟩ = some ((.slice A_w1 ((tabPut t a).atoms).length c_w1)) := hBw_16 0 _ rfl
  go_wp2_with fail
  clear xg0 yg
  clear xw0 yw
  refine (eq_TabTab ((tabPut t a)) ((tabPut t a)) _ _  _ ((OwnSl.up ho_g1 (fr_g.mk1 (Nat.le_refl _) (by omega)) (Ext.refl _)).old (fr_g.mk1 (Nat.le_refl _) (by omega))) ((OwnSl.up ho_w1 (fr_w.mk1 (Nat.le_refl _) (by omega)) (Ext.refl _)).old (fr_w.mk1 (Nat.le_refl _) (by omega)))).mono ?_
  rintro e w17 ⟨rfl, hy⟩
  have hx17 : Ext w16 w17 := Ext.trans (Ext.auto) hy
  have hs17 := hx17.size
  have he17 : Ext w w17 := he16.trans hx17
  have hBt_17 : Bx w17 (w.heap.size) [(.slice At1 t.atoms.length ct1)] := hx17.bx hBt_16 (by omega)
  have hFt_17 : ∀ oo, w17.frozen? ⟨w.heap.size, oo, none⟩ = false := fun oo => (hx17.frozen (by omega)).trans (hFt_16 oo)
  have hBa_17 : Bx w17 (w.heap.size + 1) [.int .i64 a.kind, .int .i64 a.k, (.slice Aa1 a.x.monos.length ca1), (.slice Aa2 a.y.monos.length ca2)] := hx17.bx hBa_16 (by omega)
  have hFa_17 : ∀ oo, w17.frozen? ⟨w.heap.size + 1, oo, none⟩ = false := fun oo => (hx17.frozen (by omega)).trans (hFa_16 oo)
  have hBw_17 : Bx w17 (q_w) [(.slice A_w1 ((tabPut t a).atoms).length c_w1)] := hx17.bx hBw_16 (by omega)
  have hFw_17 : ∀ oo, w17.frozen? ⟨q_w, oo, none⟩ = false := fun oo => (hx17.frozen (by omega)).trans (hFw_16 oo)
  have hBxt_17 : Bx w17 (w4.heap.size) [(.slice A_xt1 (t.atoms).length c_xt1)] := hx17.bx hBxt_16 (by omega)
  have hFxt_17 : ∀ oo, w17.frozen? ⟨w4.heap.size, oo, none⟩ = false := fun oo => (hx17.frozen (by omega)).trans (hFxt_16 oo)
  have hBxa_17 : Bx w17 (w6.heap.size) [.int .i64 a.kind, .int .i64 a.k, (.slice A_xa1 (a.x.monos).length c_xa1), (.slice A_xa2 (a.y.monos).length c_xa2)] := hx17.bx hBxa_16 (by omega)
  have hFxa_17 : ∀ oo, w17.frozen? ⟨w6.heap.size, oo, none⟩ = false := fun oo => (hx17.frozen (by omega)).trans (hFxa_16 oo)
  have hBg_17 : Bx w17 (w8.heap.size) [(.slice A_g1 ((tabPut t a).atoms).length c_g1)] := hx17.bx hBg_16 (by omega)
  have hFg_17 : ∀ oo, w17.frozen? ⟨w8.heap.size, oo, none⟩ = false := fun oo => (hx17.frozen (by omega)).trans (hFg_16 oo)
  clear hBt_16 hFt_16 hBa_16 hFa_16 hBw_16 hFw_16 hBxt_16 hFxt_16 hBxa_16 hFxa_16 hBg_16 hFg_16
  clear hy
  clear hm_xt1 fr_xt
  clear hm_xa1 hm_xa2 fr_xa
  have hct_g := TabTab.ctV_le ((tabPut t a))
  have hrb := blk_tabPut t a
  have yg : w8.heap.size < w17.heap.size := by omega
  have xg0 : w17.cell? ⟨w8.heap.size, 0, none⟩ = some ((.slice A_g1 ((tabPut t a).atoms).length c_g1)) := hBg_17 0 _ rfl
  go_wp2_with fail
  clear xg0 yg
  refine (mark_TabTab ((tabPut t a)) _ _ (1) _ (OwnSl.up ho_g1 (fr_g.mk1 (Nat.le_refl _) (by omega)) hx17) fr_g.1 (fun x hx => by have := (fr_g.2 x hx).2; omega) (by omega) (by omega)).mono ?_
  rintro e w18 ⟨rfl, hm_g1, hy⟩
  have hc18 : Chg F_g1 w17 w18 := hy
  have hs18 := hc18.size
  have he18 : Ext w w18 := Chg.ext he17 hc18 (fun x hx => by have := (fr_g.2 x hx).1; omega)
  have hBt_18 : Bx w18 (w.heap.size) [(.slice At1 t.atoms.length ct1)] := fun j u hu => (hc18.cell (by omega) (by intro hm; have := (fr_g.2 _ hm); have h1 := this.1; have h2 := this.2; omega)).trans (hBt_17 j u hu)
  have hFt_18 : ∀ oo, w18.frozen? ⟨w.heap.size, oo, none⟩ = false := fun oo => (hc18.frozen _ _ (by omega)).trans (hFt_17 oo)
  have hBa_18 : Bx w18 (w.heap.size + 1) [.int .i64 a.kind, .int .i64 a.k, (.slice Aa1 a.x.monos.length ca1), (.slice Aa2 a.y.monos.length ca2)] := fun j u hu => (hc18.cell (by omega) (by intro hm; have := (fr_g.2 _ hm); have h1 := this.1; have h2 := this.2; omega)).trans (hBa_17 j u hu)
  have hFa_18 : ∀ oo, w18.frozen? ⟨w.heap.size + 1, oo, none⟩ = false := fun oo => (hc18.frozen _ _ (by omega)).trans (hFa_17 oo)
  have hBw_18 : Bx w18 (q_w) [(.slice A_w1 ((tabPut t a).atoms).length c_w1)] := fun j u hu => (hc18.cell (by omega) (by intro hm; have := (fr_g.2 _ hm); have h1 := this.1; have h2 := this.2; omega)).trans (hBw_17 j u hu)
  have hFw_18 : ∀ oo, w18.frozen? ⟨q_w, oo, none⟩ = false := fun oo => (hc18.frozen _ _ (by omega)).trans (hFw_17 oo)
  have hBxt_18 : Bx w18 (w4.heap.size) [(.slice A_xt1 (t.atoms).length c_xt1)] := fun j u hu => (hc18.cell (by omega) (by intro hm; have := (fr_g.2 _ hm); have h1 := this.1; have h2 := this.2; omega)).trans (hBxt_17 j u hu)
  have hFxt_18 : ∀ oo, w18.frozen? ⟨w4.heap.size, oo, none⟩ = false := fun oo => (hc18.frozen _ _ (by omega)).trans (hFxt_17 oo)
  have hBxa_18 : Bx w18 (w6.heap.size) [.int .i64 a.kind, .int .i64 a.k, (.slice A_xa1 (a.x.monos).length c_xa1), (.slice A_xa2 (a.y.monos).length c_xa2)] := fun j u hu => (hc18.cell (by omega) (by intro hm; have := (fr_g.2 _ hm); have h1 := this.1; have h2 := this.2; omega)).trans (hBxa_17 j u hu)
  have hFxa_18 : ∀ oo, w18.frozen? ⟨w6.heap.size, oo, none⟩ = false := fun oo => (hc18.frozen _ _ (by omega)).trans (hFxa_17 oo)
  have hBg_18 : Bx w18 (w8.heap.size) [(.slice A_g1 ((tabPut t a).atoms).length c_g1)] := fun j u hu => (hc18.cell (by omega) (by intro hm; have := (fr_g.2 _ hm); have h1 := this.1; have h2 := this.2; omega)).trans (hBg_17 j u hu)
  have hFg_18 : ∀ oo, w18.frozen? ⟨w8.heap.size, oo, none⟩ = false := fun oo => (hc18.frozen _ _ (by omega)).trans (hFg_17 oo)
  clear hBt_17 hFt_17 hBa_17 hFa_17 hBw_17 hFw_17 hBxt_17 hFxt_17 hBxa_17 hFxa_17 hBg_17 hFg_17
  have ho_w1' := (OwnSl.up ho_w1 (fr_w.mk1 (Nat.le_refl _) (by omega)) hx17).past fr_w (by omega) hc18 (fun x hx => (fr_w.apart fr_g (by omega)) x (by simp [hx]))
  clear ho_w1
  have ho_w1 := ho_w1'
  clear ho_w1'
  clear hy
  have yg : w8.heap.size < w18.heap.size := by omega
  have xg0 : w18.cell? ⟨w8.heap.size, 0, none⟩ = some ((.slice A_g1 ((tabPut t a).atoms).length c_g1)) := hBg_18 0 _ rfl
  go_wp2_with fail
  clear xg0 yg
  refine (held_TabTab ((tabPut t a)) _ (1) _ ((OwnSl.up hm_g1 (fr_g.mk1 (Nat.le_refl _) (by omega)) (Ext.refl _)).old (fr_g.mk1 (Nat.le_refl _) (by omega))) (by omega) (by omega)).mono ?_
  rintro e w19 ⟨rfl, hy⟩
  have hx19 : Ext w18 w19 := Ext.trans (Ext.auto) hy
  have hs19 := hx19.size
  have he19 : Ext w w19 := he18.trans hx19
  have hBt_19 : Bx w19 (w.heap.size) [(.slice At1 t.atoms.length ct1)] := hx19.bx hBt_18 (by omega)
  have hFt_19 : ∀ oo, w19.frozen? ⟨w.heap.size, oo, none⟩ = false := fun oo => (hx19.frozen (by omega)).trans (hFt_18 oo)
  have hBa_19 : Bx w19 (w.heap.size + 1) [.int .i64 a.kind, .int .i64 a.k, (.slice Aa1 a.x.monos.length ca1), (.slice Aa2 a.y.monos.length ca2)] := hx19.bx hBa_18 (by omega)
  have hFa_19 : ∀ oo, w19.frozen? ⟨w.heap.size + 1, oo, none⟩ = false := fun oo => (hx19.frozen (by omega)).trans (hFa_18 oo)
  have hBw_19 : Bx w19 (q_w) [(.slice A_w1 ((tabPut t a).atoms).length c_w1)] := hx19.bx hBw_18 (by omega)
  have hFw_19 : ∀ oo, w19.frozen? ⟨q_w, oo, none⟩ = false := fun oo => (hx19.frozen (by omega)).trans (hFw_18 oo)
  have hBxt_19 : Bx w19 (w4.heap.size) [(.slice A_xt1 (t.atoms).length c_xt1)] := hx19.bx hBxt_18 (by omega)
  have hFxt_19 : ∀ oo, w19.frozen? ⟨w4.heap.size, oo, none⟩ = false := fun oo => (hx19.frozen (by omega)).trans (hFxt_18 oo)
  have hBxa_19 : Bx w19 (w6.heap.size) [.int .i64 a.kind, .int .i64 a.k, (.slice A_xa1 (a.x.monos).length c_xa1), (.slice A_xa2 (a.y.monos).length c_xa2)] := hx19.bx hBxa_18 (by omega)
  have hFxa_19 : ∀ oo, w19.frozen? ⟨w6.heap.size, oo, none⟩ = false := fun oo => (hx19.frozen (by omega)).trans (hFxa_18 oo)
  have hBg_19 : Bx w19 (w8.heap.size) [(.slice A_g1 ((tabPut t a).atoms).length c_g1)] := hx19.bx hBg_18 (by omega)
  have hFg_19 : ∀ oo, w19.frozen? ⟨w8.heap.size, oo, none⟩ = false := fun oo => (hx19.frozen (by omega)).trans (hFg_18 oo)
  clear hBt_18 hFt_18 hBa_18 hFa_18 hBw_18 hFw_18 hBxt_18 hFxt_18 hBxa_18 hFxa_18 hBg_18 hFg_18
  clear hy
  go_upto_region 31 with fail
  go_cut [15, 16] (fun vt15 vt16 wx => ∃ (q_h : Nat) (A_h1 : Option Addr) (c_h1 : Nat) (F_h1 : List Nat), vt15 = .pointer (some ⟨q_h, 0, none⟩) ∧ vt16 = .int .i64 (tabPutAt t a) ∧ Ext w19 wx ∧ w19.heap.size ≤ q_h ∧ q_h < wx.heap.size ∧ Bx wx q_h [(.slice A_h1 ((tabPut t a).atoms).length c_h1)] ∧ (∀ oo, wx.frozen? ⟨q_h, oo, none⟩ = false) ∧ OwnSl wx (.slice A_h1 ((tabPut t a).atoms).length c_h1) ((tabPut t a).atoms) F_h1 ∧ Fr w19 wx (F_h1))
  · 
    have yt : w.heap.size < w19.heap.size := by omega
    have xt0 : w19.cell? ⟨w.heap.size, 0, none⟩ = some ((.slice At1 t.atoms.length ct1)) := hBt_19 0 _ rfl
    have ya : w.heap.size + 1 < w19.heap.size := by omega
    have xa0 := hBa_19 0 _ rfl
    have xa1 := hBa_19 1 _ rfl
    have xa2 := hBa_19 2 _ rfl
    have xa3 := hBa_19 3 _ rfl
    have hS : ∀ w', Ext w19 w' → ∀ bb oo, bb < w19.heap.size → w'.cell? ⟨bb, oo, none⟩ = w19.cell? ⟨bb, oo, none⟩ := fun w' hx bb oo hb => hx.cell hb
    refine wp_region_plan (fun w' => Ext w19 w') 10 (.float 0 (.float 2 (.fork 1 8 (.fork 3 8 (.fork 4 8 (.float 5 (.float 6 (.float 7 (.chain 8 (.chain 9 (.tail 10)))))) (.chain 4 (.float 5 (.float 6 (.float 7 (.chain 9 (.tail 10))))))) (.chain 3 (.chain 4 (.float 5 (.float 6 (.float 7 (.chain 9 (.tail 10)))))))) (.chain 1 (.chain 3 (.chain 4 (.float 5 (.float 6 (.float 7 (.chain 9 (.tail 10))))))))))) (by kernel_rfl) (by kernel_rfl) (Ext.refl _).drew ?_
    iterate 2 ((refine Plan.float_step (v := ?_) rfl (by rfl) (fun _ _ _ h => h) (fun w' hSw => ?_) ?_; rotate_left; · (go_simp; try with_reducible rfl)); (try simp only [Act.put, List.setIfInBounds_toArray, List.set_cons_zero, List.set_cons_succ]))
    refine Plan.fork_step ?_ ?_
    · 
      refine Plan.chain_step rfl (fun K hK => ?_)
      go_simp
      refine (to_TabTab t _ _ (ht1.ext (Ext.trans he19 (Ext.auto))) nt).mono ?_
      rintro e w20 ⟨r_zt1, F_zt1, rfl, ho_zt1, hf_zt, hy⟩
      refine hK.out _ _ (Ext.trans (Ext.auto) hy) ?_
      clear hK
      (try simp only [Act.put, List.setIfInBounds_toArray, List.set_cons_zero, List.set_cons_succ])
      have hx20 : Ext w19 w20 := Ext.trans (Ext.auto) hy
      have hs20 := hx20.size
      have he20 : Ext w w20 := he19.trans hx20
      have hBt_20 : Bx w20 (w.heap.size) [(.slice At1 t.atoms.length ct1)] := hx20.bx hBt_19 (by omega)
      have hFt_20 : ∀ oo, w20.frozen? ⟨w.heap.size, oo, none⟩ = false := fun oo => (hx20.frozen (by omega)).trans (hFt_19 oo)
      have hBa_20 : Bx w20 (w.heap.size + 1) [.int .i64 a.kind, .int .i64 a.k, (.slice Aa1 a.x.monos.length ca1), (.slice Aa2 a.y.monos.length ca2)] := hx20.bx hBa_19 (by omega)
      have hFa_20 : ∀ oo, w20.frozen? ⟨w.heap.size + 1, oo, none⟩ = false := fun oo => (hx20.frozen (by omega)).trans (hFa_19 oo)
      have hBw_20 : Bx w20 (q_w) [(.slice A_w1 ((tabPut t a).atoms).length c_w1)] := hx20.bx hBw_19 (by omega)
      have hFw_20 : ∀ oo, w20.frozen? ⟨q_w, oo, none⟩ = false := fun oo => (hx20.frozen (by omega)).trans (hFw_19 oo)
      have hBxt_20 : Bx w20 (w4.heap.size) [(.slice A_xt1 (t.atoms).length c_xt1)] := hx20.bx hBxt_19 (by omega)
      have hFxt_20 : ∀ oo, w20.frozen? ⟨w4.heap.size, oo, none⟩ = false := fun oo => (hx20.frozen (by omega)).trans (hFxt_19 oo)
      have hBxa_20 : Bx w20 (w6.heap.size) [.int .i64 a.kind, .int .i64 a.k, (.slice A_xa1 (a.x.monos).length c_xa1), (.slice A_xa2 (a.y.monos).length c_xa2)] := hx20.bx hBxa_19 (by omega)
      have hFxa_20 : ∀ oo, w20.frozen? ⟨w6.heap.size, oo, none⟩ = false := fun oo => (hx20.frozen (by omega)).trans (hFxa_19 oo)
      have hBg_20 : Bx w20 (w8.heap.size) [(.slice A_g1 ((tabPut t a).atoms).length c_g1)] := hx20.bx hBg_19 (by omega)
      have hFg_20 : ∀ oo, w20.frozen? ⟨w8.heap.size, oo, none⟩ = false := fun oo => (hx20.frozen (by omega)).trans (hFg_19 oo)
      clear hBt_19 hFt_19 hBa_19 hFa_19 hBw_19 hFw_19 hBxt_19 hFxt_19 hBxa_19 hFxa_19 hBg_19 hFg_19
      clear hy
      obtain ⟨A_zt1, c_zt1, rfl, -, -⟩ := ho_zt1.sl.form
      have fr_zt : Fr w19 w20 (F_zt1) := hf_zt.mk1 (by first | exact Nat.le_refl _ | (simp; done)) (Nat.le_refl _)
      clear hf_zt
      refine Plan.fork_step ?_ ?_
      · 
        refine Plan.chain_step rfl (fun K hK => ?_)
        go_simp
        refine (to_TabAtom a _ _ _ (ha1.ext (Ext.trans he20 (Ext.auto))) (ha2.ext (Ext.trans he20 (Ext.auto))) na).mono ?_
        rintro e w21 ⟨r_za1, r_za2, F_za1, F_za2, rfl, ho_za1, ho_za2, hf_za, hy⟩
        refine hK.out _ _ (Ext.trans hx20 hy) ?_
        clear hK
        (try simp only [Act.put, List.setIfInBounds_toArray, List.set_cons_zero, List.set_cons_succ])
        have hx21 : Ext w20 w21 := Ext.trans (Ext.auto) hy
        have hs21 := hx21.size
        have he21 : Ext w w21 := he20.trans hx21
        have hBt_21 : Bx w21 (w.heap.size) [(.slice At1 t.atoms.length ct1)] := hx21.bx hBt_20 (by omega)
        have hFt_21 : ∀ oo, w21.frozen? ⟨w.heap.size, oo, none⟩ = false := fun oo => (hx21.frozen (by omega)).trans (hFt_20 oo)
        have hBa_21 : Bx w21 (w.heap.size + 1) [.int .i64 a.kind, .int .i64 a.k, (.slice Aa1 a.x.monos.length ca1), (.slice Aa2 a.y.monos.length ca2)] := hx21.bx hBa_20 (by omega)
        have hFa_21 : ∀ oo, w21.frozen? ⟨w.heap.size + 1, oo, none⟩ = false := fun oo => (hx21.frozen (by omega)).trans (hFa_20 oo)
        have hBw_21 : Bx w21 (q_w) [(.slice A_w1 ((tabPut t a).atoms).length c_w1)] := hx21.bx hBw_20 (by omega)
        have hFw_21 : ∀ oo, w21.frozen? ⟨q_w, oo, none⟩ = false := fun oo => (hx21.frozen (by omega)).trans (hFw_20 oo)
        have hBxt_21 : Bx w21 (w4.heap.size) [(.slice A_xt1 (t.atoms).length c_xt1)] := hx21.bx hBxt_20 (by omega)
        have hFxt_21 : ∀ oo, w21.frozen? ⟨w4.heap.size, oo, none⟩ = false := fun oo => (hx21.frozen (by omega)).trans (hFxt_20 oo)
        have hBxa_21 : Bx w21 (w6.heap.size) [.int .i64 a.kind, .int .i64 a.k, (.slice A_xa1 (a.x.monos).length c_xa1), (.slice A_xa2 (a.y.monos).length c_xa2)] := hx21.bx hBxa_20 (by omega)
        have hFxa_21 : ∀ oo, w21.frozen? ⟨w6.heap.size, oo, none⟩ = false := fun oo => (hx21.frozen (by omega)).trans (hFxa_20 oo)
        have hBg_21 : Bx w21 (w8.heap.size) [(.slice A_g1 ((tabPut t a).atoms).length c_g1)] := hx21.bx hBg_20 (by omega)
        have hFg_21 : ∀ oo, w21.frozen? ⟨w8.heap.size, oo, none⟩ = false := fun oo => (hx21.frozen (by omega)).trans (hFg_20 oo)
        clear hBt_20 hFt_20 hBa_20 hFa_20 hBw_20 hFw_20 hBxt_20 hFxt_20 hBxa_20 hFxa_20 hBg_20 hFg_20
        clear hy
        obtain ⟨A_za1, c_za1, rfl, -, -⟩ := ho_za1.sl.form
        obtain ⟨A_za2, c_za2, rfl, -, -⟩ := ho_za2.sl.form
        have fr_za : Fr w20 w21 (F_za1 ++ F_za2) := hf_za.mk1 (by first | exact Nat.le_refl _ | (simp; done)) (Nat.le_refl _)
        clear hf_za
        refine Plan.fork_step ?_ ?_
        · 
          refine Plan.chain_step rfl (fun K hK => ?_)
          go_simp
          refine (implTabPut_any t a _ _ _ _ ((OwnSl.up ho_zt1 (fr_zt.mk1 (Nat.le_refl _) (by omega)) hx21).old (fr_zt.mk1 (Nat.le_refl _) (by omega))) ((OwnSl.up ho_za1 (fr_za.inl.mk1 (Nat.le_refl _) (by omega)) (Ext.refl _)).old (fr_za.inl.mk1 (Nat.le_refl _) (by omega))) ((OwnSl.up ho_za2 (fr_za.inr.mk1 (Nat.le_refl _) (by omega)) (Ext.refl _)).old (fr_za.inr.mk1 (Nat.le_refl _) (by omega))) hka (by omega) (by omega)).mono ?_
          rintro e w22 ⟨r_h1, F_h1, rfl, ho_h1, hf_h, hy⟩
          refine hK.out _ _ (Ext.trans (Ext.trans hx20 hx21) hy) ?_
          clear hK
          (try simp only [Act.put, List.setIfInBounds_toArray, List.set_cons_zero, List.set_cons_succ])
          have hx22 : Ext w21 w22 := Ext.trans (Ext.auto) hy
          have hs22 := hx22.size
          have he22 : Ext w w22 := he21.trans hx22
          have hBt_22 : Bx w22 (w.heap.size) [(.slice At1 t.atoms.length ct1)] := hx22.bx hBt_21 (by omega)
          have hFt_22 : ∀ oo, w22.frozen? ⟨w.heap.size, oo, none⟩ = false := fun oo => (hx22.frozen (by omega)).trans (hFt_21 oo)
          have hBa_22 : Bx w22 (w.heap.size + 1) [.int .i64 a.kind, .int .i64 a.k, (.slice Aa1 a.x.monos.length ca1), (.slice Aa2 a.y.monos.length ca2)] := hx22.bx hBa_21 (by omega)
          have hFa_22 : ∀ oo, w22.frozen? ⟨w.heap.size + 1, oo, none⟩ = false := fun oo => (hx22.frozen (by omega)).trans (hFa_21 oo)
          have hBw_22 : Bx w22 (q_w) [(.slice A_w1 ((tabPut t a).atoms).length c_w1)] := hx22.bx hBw_21 (by omega)
          have hFw_22 : ∀ oo, w22.frozen? ⟨q_w, oo, none⟩ = false := fun oo => (hx22.frozen (by omega)).trans (hFw_21 oo)
          have hBxt_22 : Bx w22 (w4.heap.size) [(.slice A_xt1 (t.atoms).length c_xt1)] := hx22.bx hBxt_21 (by omega)
          have hFxt_22 : ∀ oo, w22.frozen? ⟨w4.heap.size, oo, none⟩ = false := fun oo => (hx22.frozen (by omega)).trans (hFxt_21 oo)
          have hBxa_22 : Bx w22 (w6.heap.size) [.int .i64 a.kind, .int .i64 a.k, (.slice A_xa1 (a.x.monos).length c_xa1), (.slice A_xa2 (a.y.monos).length c_xa2)] := hx22.bx hBxa_21 (by omega)
          have hFxa_22 : ∀ oo, w22.frozen? ⟨w6.heap.size, oo, none⟩ = false := fun oo => (hx22.frozen (by omega)).trans (hFxa_21 oo)
          have hBg_22 : Bx w22 (w8.heap.size) [(.slice A_g1 ((tabPut t a).atoms).length c_g1)] := hx22.bx hBg_21 (by omega)
          have hFg_22 : ∀ oo, w22.frozen? ⟨w8.heap.size, oo, none⟩ = false := fun oo => (hx22.frozen (by omega)).trans (hFg_21 oo)
          clear hBt_21 hFt_21 hBa_21 hFa_21 hBw_21 hFw_21 hBxt_21 hFxt_21 hBxa_21 hFxa_21 hBg_21 hFg_21
          clear hy
          obtain ⟨A_h1, c_h1, rfl, -, -⟩ := ho_h1.sl.form
          have fr_h : Fr w21 w22 (F_h1) := hf_h.mk1 (by first | exact Nat.le_refl _ | (simp; done)) (Nat.le_refl _)
          clear hf_h
          iterate 3 ((refine Plan.float_step (v := ?_) rfl (by rfl) (fun _ _ _ h => h) (fun w' hSw => ?_) ?_; rotate_left; · (go_simp; try with_reducible rfl)); (try simp only [Act.put, List.setIfInBounds_toArray, List.set_cons_zero, List.set_cons_succ]))
          refine Plan.chain_step rfl (fun K hK => ?_)
          go_simp
          refine hK.out _ _ (Ext.trans (Ext.trans (Ext.trans hx20 hx21) hx22) (show Ext w22 (w22.alloc (.cells #[.slice none 0 0] 24)) from Ext.auto)) ?_
          clear hK
          (try simp only [Act.put, List.setIfInBounds_toArray, List.set_cons_zero, List.set_cons_succ])
          have hyA : Ext w22 (w22.alloc (.cells #[.slice none 0 0] 24)) := Ext.auto
          have hsA : w22.heap.size < (w22.alloc (.cells #[.slice none 0 0] 24)).heap.size := by simp
          have hBA : Bx (w22.alloc (.cells #[.slice none 0 0] 24)) w22.heap.size [.slice none 0 0] := Bx.new w22 #[.slice none 0 0] 24
          have hFA : ∀ oo, (w22.alloc (.cells #[.slice none 0 0] 24)).frozen? ⟨w22.heap.size, oo, none⟩ = false := fz_new w22 #[.slice none 0 0] 24 rfl
          generalize (w22.alloc (.cells #[.slice none 0 0] 24)) = w23 at *
          have hx23 : Ext w22 w23 := Ext.trans (Ext.auto) hyA
          have hs23 := hx23.size
          have he23 : Ext w w23 := he22.trans hx23
          have hBt_23 : Bx w23 (w.heap.size) [(.slice At1 t.atoms.length ct1)] := hx23.bx hBt_22 (by omega)
          have hFt_23 : ∀ oo, w23.frozen? ⟨w.heap.size, oo, none⟩ = false := fun oo => (hx23.frozen (by omega)).trans (hFt_22 oo)
          have hBa_23 : Bx w23 (w.heap.size + 1) [.int .i64 a.kind, .int .i64 a.k, (.slice Aa1 a.x.monos.length ca1), (.slice Aa2 a.y.monos.length ca2)] := hx23.bx hBa_22 (by omega)
          have hFa_23 : ∀ oo, w23.frozen? ⟨w.heap.size + 1, oo, none⟩ = false := fun oo => (hx23.frozen (by omega)).trans (hFa_22 oo)
          have hBw_23 : Bx w23 (q_w) [(.slice A_w1 ((tabPut t a).atoms).length c_w1)] := hx23.bx hBw_22 (by omega)
          have hFw_23 : ∀ oo, w23.frozen? ⟨q_w, oo, none⟩ = false := fun oo => (hx23.frozen (by omega)).trans (hFw_22 oo)
          have hBxt_23 : Bx w23 (w4.heap.size) [(.slice A_xt1 (t.atoms).length c_xt1)] := hx23.bx hBxt_22 (by omega)
          have hFxt_23 : ∀ oo, w23.frozen? ⟨w4.heap.size, oo, none⟩ = false := fun oo => (hx23.frozen (by omega)).trans (hFxt_22 oo)
          have hBxa_23 : Bx w23 (w6.heap.size) [.int .i64 a.kind, .int .i64 a.k, (.slice A_xa1 (a.x.monos).length c_xa1), (.slice A_xa2 (a.y.monos).length c_xa2)] := hx23.bx hBxa_22 (by omega)
          have hFxa_23 : ∀ oo, w23.frozen? ⟨w6.heap.size, oo, none⟩ = false := fun oo => (hx23.frozen (by omega)).trans (hFxa_22 oo)
          have hBg_23 : Bx w23 (w8.heap.size) [(.slice A_g1 ((tabPut t a).atoms).length c_g1)] := hx23.bx hBg_22 (by omega)
          have hFg_23 : ∀ oo, w23.frozen? ⟨w8.heap.size, oo, none⟩ = false := fun oo => (hx23.frozen (by omega)).trans (hFg_22 oo)
          clear hBt_22 hFt_22 hBa_22 hFa_22 hBw_22 hFw_22 hBxt_22 hFxt_22 hBxa_22 hFxa_22 hBg_22 hFg_22
          have hBq_23 := hBA
          have hFq_23 := hFA
          clear hBA hFA hyA
          have yq : w22.heap.size < w23.heap.size := by omega
          have xq0 : w23.cell? ⟨w22.heap.size, 0, none⟩ = some (.slice none 0 0) := hBq_23 0 _ rfl
          have fq := hFq_23
          refine Plan.chain_step rfl (fun K hK => ?_)
          go_simp
          have hcl : Ext w19 w23 := (Ext.trans (Ext.trans (Ext.trans hx20 hx21) hx22) hx23)
          refine hK.out _ _ (Ext.hold hcl) ?_
          clear hK
          (try simp only [Act.put, List.setIfInBounds_toArray, List.set_cons_zero, List.set_cons_succ])
          refine Plan.tail_step ?_
          simp only [List.drop_succ_cons, List.drop_zero]
          clear hS
          go_wp2_with fail
          go_meet
          exact ⟨w22.heap.size, _, _, F_h1, rfl, rfl, Ext.hold hcl, (by omega), (by first | omega | (simp; omega)), (by have := (Bx.put hBq_23 (j := 0) (by simp) ((.slice A_h1 ((tabPut t a).atoms).length c_h1))); simpa using this), fz_hold hFq_23, OwnSl.stay (OwnSl.up ho_h1 (fr_h.mk1 (Nat.le_refl _) (by omega)) hx23) (fun z hb => by
              have q := fr_h.2 z hb; have q1 := q.1; have q2 := q.2
              repeat (first | rw [heap_set _ _ _ _ (by show _ ≠ z; omega)] | rw [heap_set _ _ _ _ (by simp; omega)])), fr_h.mk1 (by first | omega | (simp; done) | (simp; omega)) (by first | omega | (simp; done) | (simp; omega))⟩
        · 
          refine Plan.chain_step rfl (fun K hK => ?_)
          go_simp
          refine hK.out _ _ (Ext.trans (Ext.trans hx20 hx21) (show Ext w21 (w21.alloc (.cells #[.slice none 0 0] 24)) from Ext.auto)) ?_
          clear hK
          (try simp only [Act.put, List.setIfInBounds_toArray, List.set_cons_zero, List.set_cons_succ])
          have hyA : Ext w21 (w21.alloc (.cells #[.slice none 0 0] 24)) := Ext.auto
          have hsA : w21.heap.size < (w21.alloc (.cells #[.slice none 0 0] 24)).heap.size := by simp
          have hBA : Bx (w21.alloc (.cells #[.slice none 0 0] 24)) w21.heap.size [.slice none 0 0] := Bx.new w21 #[.slice none 0 0] 24
          have hFA : ∀ oo, (w21.alloc (.cells #[.slice none 0 0] 24)).frozen? ⟨w21.heap.size, oo, none⟩ = false := fz_new w21 #[.slice none 0 0] 24 rfl
          generalize (w21.alloc (.cells #[.slice none 0 0] 24)) = w22 at *
          have hx22 : Ext w21 w22 := Ext.trans (Ext.auto) hyA
          have hs22 := hx22.size
          have he22 : Ext w w22 := he21.trans hx22
          have hBt_22 : Bx w22 (w.heap.size) [(.slice At1 t.atoms.length ct1)] := hx22.bx hBt_21 (by omega)
          have hFt_22 : ∀ oo, w22.frozen? ⟨w.heap.size, oo, none⟩ = false := fun oo => (hx22.frozen (by omega)).trans (hFt_21 oo)
          have hBa_22 : Bx w22 (w.heap.size + 1) [.int .i64 a.kind, .int .i64 a.k, (.slice Aa1 a.x.monos.length ca1), (.slice Aa2 a.y.monos.length ca2)] := hx22.bx hBa_21 (by omega)
          have hFa_22 : ∀ oo, w22.frozen? ⟨w.heap.size + 1, oo, none⟩ = false := fun oo => (hx22.frozen (by omega)).trans (hFa_21 oo)
          have hBw_22 : Bx w22 (q_w) [(.slice A_w1 ((tabPut t a).atoms).length c_w1)] := hx22.bx hBw_21 (by omega)
          have hFw_22 : ∀ oo, w22.frozen? ⟨q_w, oo, none⟩ = false := fun oo => (hx22.frozen (by omega)).trans (hFw_21 oo)
          have hBxt_22 : Bx w22 (w4.heap.size) [(.slice A_xt1 (t.atoms).length c_xt1)] := hx22.bx hBxt_21 (by omega)
          have hFxt_22 : ∀ oo, w22.frozen? ⟨w4.heap.size, oo, none⟩ = false := fun oo => (hx22.frozen (by omega)).trans (hFxt_21 oo)
          have hBxa_22 : Bx w22 (w6.heap.size) [.int .i64 a.kind, .int .i64 a.k, (.slice A_xa1 (a.x.monos).length c_xa1), (.slice A_xa2 (a.y.monos).length c_xa2)] := hx22.bx hBxa_21 (by omega)
          have hFxa_22 : ∀ oo, w22.frozen? ⟨w6.heap.size, oo, none⟩ = false := fun oo => (hx22.frozen (by omega)).trans (hFxa_21 oo)
          have hBg_22 : Bx w22 (w8.heap.size) [(.slice A_g1 ((tabPut t a).atoms).length c_g1)] := hx22.bx hBg_21 (by omega)
          have hFg_22 : ∀ oo, w22.frozen? ⟨w8.heap.size, oo, none⟩ = false := fun oo => (hx22.frozen (by omega)).trans (hFg_21 oo)
          clear hBt_21 hFt_21 hBa_21 hFa_21 hBw_21 hFw_21 hBxt_21 hFxt_21 hBxa_21 hFxa_21 hBg_21 hFg_21
          have hBq_22 := hBA
          have hFq_22 := hFA
          clear hBA hFA hyA
          refine Plan.chain_step rfl (fun K hK => ?_)
          go_simp
          refine (implTabPut_any t a _ _ _ _ ((OwnSl.up ho_zt1 (fr_zt.mk1 (Nat.le_refl _) (by omega)) (Ext.trans hx21 hx22)).old (fr_zt.mk1 (Nat.le_refl _) (by omega))) ((OwnSl.up ho_za1 (fr_za.inl.mk1 (Nat.le_refl _) (by omega)) hx22).old (fr_za.inl.mk1 (Nat.le_refl _) (by omega))) ((OwnSl.up ho_za2 (fr_za.inr.mk1 (Nat.le_refl _) (by omega)) hx22).old (fr_za.inr.mk1 (Nat.le_refl _) (by omega))) hka (by omega) (by omega)).mono ?_
          rintro e w23 ⟨r_h1, F_h1, rfl, ho_h1, hf_h, hy⟩
          refine hK.out _ _ (Ext.trans (Ext.trans (Ext.trans hx20 hx21) hx22) hy) ?_
          clear hK
          (try simp only [Act.put, List.setIfInBounds_toArray, List.set_cons_zero, List.set_cons_succ])
          have hx23 : Ext w22 w23 := Ext.trans (Ext.auto) hy
          have hs23 := hx23.size
          have he23 : Ext w w23 := he22.trans hx23
          have hBt_23 : Bx w23 (w.heap.size) [(.slice At1 t.atoms.length ct1)] := hx23.bx hBt_22 (by omega)
          have hFt_23 : ∀ oo, w23.frozen? ⟨w.heap.size, oo, none⟩ = false := fun oo => (hx23.frozen (by omega)).trans (hFt_22 oo)
          have hBa_23 : Bx w23 (w.heap.size + 1) [.int .i64 a.kind, .int .i64 a.k, (.slice Aa1 a.x.monos.length ca1), (.slice Aa2 a.y.monos.length ca2)] := hx23.bx hBa_22 (by omega)
          have hFa_23 : ∀ oo, w23.frozen? ⟨w.heap.size + 1, oo, none⟩ = false := fun oo => (hx23.frozen (by omega)).trans (hFa_22 oo)
          have hBw_23 : Bx w23 (q_w) [(.slice A_w1 ((tabPut t a).atoms).length c_w1)] := hx23.bx hBw_22 (by omega)
          have hFw_23 : ∀ oo, w23.frozen? ⟨q_w, oo, none⟩ = false := fun oo => (hx23.frozen (by omega)).trans (hFw_22 oo)
          have hBxt_23 : Bx w23 (w4.heap.size) [(.slice A_xt1 (t.atoms).length c_xt1)] := hx23.bx hBxt_22 (by omega)
          have hFxt_23 : ∀ oo, w23.frozen? ⟨w4.heap.size, oo, none⟩ = false := fun oo => (hx23.frozen (by omega)).trans (hFxt_22 oo)
          have hBxa_23 : Bx w23 (w6.heap.size) [.int .i64 a.kind, .int .i64 a.k, (.slice A_xa1 (a.x.monos).length c_xa1), (.slice A_xa2 (a.y.monos).length c_xa2)] := hx23.bx hBxa_22 (by omega)
          have hFxa_23 : ∀ oo, w23.frozen? ⟨w6.heap.size, oo, none⟩ = false := fun oo => (hx23.frozen (by omega)).trans (hFxa_22 oo)
          have hBg_23 : Bx w23 (w8.heap.size) [(.slice A_g1 ((tabPut t a).atoms).length c_g1)] := hx23.bx hBg_22 (by omega)
          have hFg_23 : ∀ oo, w23.frozen? ⟨w8.heap.size, oo, none⟩ = false := fun oo => (hx23.frozen (by omega)).trans (hFg_22 oo)
          have hBq_23 : Bx w23 (w21.heap.size) [.slice none 0 0] := hx23.bx hBq_22 (by omega)
          have hFq_23 : ∀ oo, w23.frozen? ⟨w21.heap.size, oo, none⟩ = false := fun oo => (hx23.frozen (by omega)).trans (hFq_22 oo)
          clear hBt_22 hFt_22 hBa_22 hFa_22 hBw_22 hFw_22 hBxt_22 hFxt_22 hBxa_22 hFxa_22 hBg_22 hFg_22 hBq_22 hFq_22
          clear hy
          obtain ⟨A_h1, c_h1, rfl, -, -⟩ := ho_h1.sl.form
          have fr_h : Fr w22 w23 (F_h1) := hf_h.mk1 (by first | exact Nat.le_refl _ | (simp; done)) (Nat.le_refl _)
          clear hf_h
          iterate 3 ((refine Plan.float_step (v := ?_) rfl (by rfl) (fun _ _ _ h => h) (fun w' hSw => ?_) ?_; rotate_left; · (go_simp; try with_reducible rfl)); (try simp only [Act.put, List.setIfInBounds_toArray, List.set_cons_zero, List.set_cons_succ]))
          have yq : w21.heap.size < w23.heap.size := by omega
          have xq0 : w23.cell? ⟨w21.heap.size, 0, none⟩ = some (.slice none 0 0) := hBq_23 0 _ rfl
          have fq := hFq_23
          refine Plan.chain_step rfl (fun K hK => ?_)
          go_simp
          have hcl : Ext w19 w23 := (Ext.trans (Ext.trans (Ext.trans hx20 hx21) hx22) hx23)
          refine hK.out _ _ (Ext.hold hcl) ?_
          clear hK
          (try simp only [Act.put, List.setIfInBounds_toArray, List.set_cons_zero, List.set_cons_succ])
          refine Plan.tail_step ?_
          simp only [List.drop_succ_cons, List.drop_zero]
          clear hS
          go_wp2_with fail
          go_meet
          exact ⟨w21.heap.size, _, _, F_h1, rfl, rfl, Ext.hold hcl, (by omega), (by first | omega | (simp; omega)), (by have := (Bx.put hBq_23 (j := 0) (by simp) ((.slice A_h1 ((tabPut t a).atoms).length c_h1))); simpa using this), fz_hold hFq_23, OwnSl.stay (OwnSl.up ho_h1 (fr_h.mk1 (Nat.le_refl _) (by omega)) (Ext.refl _)) (fun z hb => by
              have q := fr_h.2 z hb; have q1 := q.1; have q2 := q.2
              repeat (first | rw [heap_set _ _ _ _ (by show _ ≠ z; omega)] | rw [heap_set _ _ _ _ (by simp; omega)])), fr_h.mk1 (by first | omega | (simp; done) | (simp; omega)) (by first | omega | (simp; done) | (simp; omega))⟩
      · 
        refine Plan.chain_step rfl (fun K hK => ?_)
        go_simp
        refine hK.out _ _ (Ext.trans hx20 (show Ext w20 (w20.alloc (.cells #[.slice none 0 0] 24)) from Ext.auto)) ?_
        clear hK
        (try simp only [Act.put, List.setIfInBounds_toArray, List.set_cons_zero, List.set_cons_succ])
        have hyA : Ext w20 (w20.alloc (.cells #[.slice none 0 0] 24)) := Ext.auto
        have hsA : w20.heap.size < (w20.alloc (.cells #[.slice none 0 0] 24)).heap.size := by simp
        have hBA : Bx (w20.alloc (.cells #[.slice none 0 0] 24)) w20.heap.size [.slice none 0 0] := Bx.new w20 #[.slice none 0 0] 24
        have hFA : ∀ oo, (w20.alloc (.cells #[.slice none 0 0] 24)).frozen? ⟨w20.heap.size, oo, none⟩ = false := fz_new w20 #[.slice none 0 0] 24 rfl
        generalize (w20.alloc (.cells #[.slice none 0 0] 24)) = w21 at *
        have hx21 : Ext w20 w21 := Ext.trans (Ext.auto) hyA
        have hs21 := hx21.size
        have he21 : Ext w w21 := he20.trans hx21
        have hBt_21 : Bx w21 (w.heap.size) [(.slice At1 t.atoms.length ct1)] := hx21.bx hBt_20 (by omega)
        have hFt_21 : ∀ oo, w21.frozen? ⟨w.heap.size, oo, none⟩ = false := fun oo => (hx21.frozen (by omega)).trans (hFt_20 oo)
        have hBa_21 : Bx w21 (w.heap.size + 1) [.int .i64 a.kind, .int .i64 a.k, (.slice Aa1 a.x.monos.length ca1), (.slice Aa2 a.y.monos.length ca2)] := hx21.bx hBa_20 (by omega)
        have hFa_21 : ∀ oo, w21.frozen? ⟨w.heap.size + 1, oo, none⟩ = false := fun oo => (hx21.frozen (by omega)).trans (hFa_20 oo)
        have hBw_21 : Bx w21 (q_w) [(.slice A_w1 ((tabPut t a).atoms).length c_w1)] := hx21.bx hBw_20 (by omega)
        have hFw_21 : ∀ oo, w21.frozen? ⟨q_w, oo, none⟩ = false := fun oo => (hx21.frozen (by omega)).trans (hFw_20 oo)
        have hBxt_21 : Bx w21 (w4.heap.size) [(.slice A_xt1 (t.atoms).length c_xt1)] := hx21.bx hBxt_20 (by omega)
        have hFxt_21 : ∀ oo, w21.frozen? ⟨w4.heap.size, oo, none⟩ = false := fun oo => (hx21.frozen (by omega)).trans (hFxt_20 oo)
        have hBxa_21 : Bx w21 (w6.heap.size) [.int .i64 a.kind, .int .i64 a.k, (.slice A_xa1 (a.x.monos).length c_xa1), (.slice A_xa2 (a.y.monos).length c_xa2)] := hx21.bx hBxa_20 (by omega)
        have hFxa_21 : ∀ oo, w21.frozen? ⟨w6.heap.size, oo, none⟩ = false := fun oo => (hx21.frozen (by omega)).trans (hFxa_20 oo)
        have hBg_21 : Bx w21 (w8.heap.size) [(.slice A_g1 ((tabPut t a).atoms).length c_g1)] := hx21.bx hBg_20 (by omega)
        have hFg_21 : ∀ oo, w21.frozen? ⟨w8.heap.size, oo, none⟩ = false := fun oo => (hx21.frozen (by omega)).trans (hFg_20 oo)
        clear hBt_20 hFt_20 hBa_20 hFa_20 hBw_20 hFw_20 hBxt_20 hFxt_20 hBxa_20 hFxa_20 hBg_20 hFg_20
        have hBq_21 := hBA
        have hFq_21 := hFA
        clear hBA hFA hyA
        refine Plan.chain_step rfl (fun K hK => ?_)
        go_simp
        refine (to_TabAtom a _ _ _ (ha1.ext (Ext.trans he21 (Ext.auto))) (ha2.ext (Ext.trans he21 (Ext.auto))) na).mono ?_
        rintro e w22 ⟨r_za1, r_za2, F_za1, F_za2, rfl, ho_za1, ho_za2, hf_za, hy⟩
        refine hK.out _ _ (Ext.trans (Ext.trans hx20 hx21) hy) ?_
        clear hK
        (try simp only [Act.put, List.setIfInBounds_toArray, List.set_cons_zero, List.set_cons_succ])
        have hx22 : Ext w21 w22 := Ext.trans (Ext.auto) hy
        have hs22 := hx22.size
        have he22 : Ext w w22 := he21.trans hx22
        have hBt_22 : Bx w22 (w.heap.size) [(.slice At1 t.atoms.length ct1)] := hx22.bx hBt_21 (by omega)
        have hFt_22 : ∀ oo, w22.frozen? ⟨w.heap.size, oo, none⟩ = false := fun oo => (hx22.frozen (by omega)).trans (hFt_21 oo)
        have hBa_22 : Bx w22 (w.heap.size + 1) [.int .i64 a.kind, .int .i64 a.k, (.slice Aa1 a.x.monos.length ca1), (.slice Aa2 a.y.monos.length ca2)] := hx22.bx hBa_21 (by omega)
        have hFa_22 : ∀ oo, w22.frozen? ⟨w.heap.size + 1, oo, none⟩ = false := fun oo => (hx22.frozen (by omega)).trans (hFa_21 oo)
        have hBw_22 : Bx w22 (q_w) [(.slice A_w1 ((tabPut t a).atoms).length c_w1)] := hx22.bx hBw_21 (by omega)
        have hFw_22 : ∀ oo, w22.frozen? ⟨q_w, oo, none⟩ = false := fun oo => (hx22.frozen (by omega)).trans (hFw_21 oo)
        have hBxt_22 : Bx w22 (w4.heap.size) [(.slice A_xt1 (t.atoms).length c_xt1)] := hx22.bx hBxt_21 (by omega)
        have hFxt_22 : ∀ oo, w22.frozen? ⟨w4.heap.size, oo, none⟩ = false := fun oo => (hx22.frozen (by omega)).trans (hFxt_21 oo)
        have hBxa_22 : Bx w22 (w6.heap.size) [.int .i64 a.kind, .int .i64 a.k, (.slice A_xa1 (a.x.monos).length c_xa1), (.slice A_xa2 (a.y.monos).length c_xa2)] := hx22.bx hBxa_21 (by omega)
        have hFxa_22 : ∀ oo, w22.frozen? ⟨w6.heap.size, oo, none⟩ = false := fun oo => (hx22.frozen (by omega)).trans (hFxa_21 oo)
        have hBg_22 : Bx w22 (w8.heap.size) [(.slice A_g1 ((tabPut t a).atoms).length c_g1)] := hx22.bx hBg_21 (by omega)
        have hFg_22 : ∀ oo, w22.frozen? ⟨w8.heap.size, oo, none⟩ = false := fun oo => (hx22.frozen (by omega)).trans (hFg_21 oo)
        have hBq_22 : Bx w22 (w20.heap.size) [.slice none 0 0] := hx22.bx hBq_21 (by omega)
        have hFq_22 : ∀ oo, w22.frozen? ⟨w20.heap.size, oo, none⟩ = false := fun oo => (hx22.frozen (by omega)).trans (hFq_21 oo)
        clear hBt_21 hFt_21 hBa_21 hFa_21 hBw_21 hFw_21 hBxt_21 hFxt_21 hBxa_21 hFxa_21 hBg_21 hFg_21 hBq_21 hFq_21
        clear hy
        obtain ⟨A_za1, c_za1, rfl, -, -⟩ := ho_za1.sl.form
        obtain ⟨A_za2, c_za2, rfl, -, -⟩ := ho_za2.sl.form
        have fr_za : Fr w21 w22 (F_za1 ++ F_za2) := hf_za.mk1 (by first | exact Nat.le_refl _ | (simp; done)) (Nat.le_refl _)
        clear hf_za
        refine Plan.chain_step rfl (fun K hK => ?_)
        go_simp
        refine (implTabPut_any t a _ _ _ _ ((OwnSl.up ho_zt1 (fr_zt.mk1 (Nat.le_refl _) (by omega)) (Ext.trans hx21 hx22)).old (fr_zt.mk1 (Nat.le_refl _) (by omega))) ((OwnSl.up ho_za1 (fr_za.inl.mk1 (Nat.le_refl _) (by omega)) (Ext.refl _)).old (fr_za.inl.mk1 (Nat.le_refl _) (by omega))) ((OwnSl.up ho_za2 (fr_za.inr.mk1 (Nat.le_refl _) (by omega)) (Ext.refl _)).old (fr_za.inr.mk1 (Nat.le_refl _) (by omega))) hka (by omega) (by omega)).mono ?_
        rintro e w23 ⟨r_h1, F_h1, rfl, ho_h1, hf_h, hy⟩
        refine hK.out _ _ (Ext.trans (Ext.trans (Ext.trans hx20 hx21) hx22) hy) ?_
        clear hK
        (try simp only [Act.put, List.setIfInBounds_toArray, List.set_cons_zero, List.set_cons_succ])
        have hx23 : Ext w22 w23 := Ext.trans (Ext.auto) hy
        have hs23 := hx23.size
        have he23 : Ext w w23 := he22.trans hx23
        have hBt_23 : Bx w23 (w.heap.size) [(.slice At1 t.atoms.length ct1)] := hx23.bx hBt_22 (by omega)
        have hFt_23 : ∀ oo, w23.frozen? ⟨w.heap.size, oo, none⟩ = false := fun oo => (hx23.frozen (by omega)).trans (hFt_22 oo)
        have hBa_23 : Bx w23 (w.heap.size + 1) [.int .i64 a.kind, .int .i64 a.k, (.slice Aa1 a.x.monos.length ca1), (.slice Aa2 a.y.monos.length ca2)] := hx23.bx hBa_22 (by omega)
        have hFa_23 : ∀ oo, w23.frozen? ⟨w.heap.size + 1, oo, none⟩ = false := fun oo => (hx23.frozen (by omega)).trans (hFa_22 oo)
        have hBw_23 : Bx w23 (q_w) [(.slice A_w1 ((tabPut t a).atoms).length c_w1)] := hx23.bx hBw_22 (by omega)
        have hFw_23 : ∀ oo, w23.frozen? ⟨q_w, oo, none⟩ = false := fun oo => (hx23.frozen (by omega)).trans (hFw_22 oo)
        have hBxt_23 : Bx w23 (w4.heap.size) [(.slice A_xt1 (t.atoms).length c_xt1)] := hx23.bx hBxt_22 (by omega)
        have hFxt_23 : ∀ oo, w23.frozen? ⟨w4.heap.size, oo, none⟩ = false := fun oo => (hx23.frozen (by omega)).trans (hFxt_22 oo)
        have hBxa_23 : Bx w23 (w6.heap.size) [.int .i64 a.kind, .int .i64 a.k, (.slice A_xa1 (a.x.monos).length c_xa1), (.slice A_xa2 (a.y.monos).length c_xa2)] := hx23.bx hBxa_22 (by omega)
        have hFxa_23 : ∀ oo, w23.frozen? ⟨w6.heap.size, oo, none⟩ = false := fun oo => (hx23.frozen (by omega)).trans (hFxa_22 oo)
        have hBg_23 : Bx w23 (w8.heap.size) [(.slice A_g1 ((tabPut t a).atoms).length c_g1)] := hx23.bx hBg_22 (by omega)
        have hFg_23 : ∀ oo, w23.frozen? ⟨w8.heap.size, oo, none⟩ = false := fun oo => (hx23.frozen (by omega)).trans (hFg_22 oo)
        have hBq_23 : Bx w23 (w20.heap.size) [.slice none 0 0] := hx23.bx hBq_22 (by omega)
        have hFq_23 : ∀ oo, w23.frozen? ⟨w20.heap.size, oo, none⟩ = false := fun oo => (hx23.frozen (by omega)).trans (hFq_22 oo)
        clear hBt_22 hFt_22 hBa_22 hFa_22 hBw_22 hFw_22 hBxt_22 hFxt_22 hBxa_22 hFxa_22 hBg_22 hFg_22 hBq_22 hFq_22
        clear hy
        obtain ⟨A_h1, c_h1, rfl, -, -⟩ := ho_h1.sl.form
        have fr_h : Fr w22 w23 (F_h1) := hf_h.mk1 (by first | exact Nat.le_refl _ | (simp; done)) (Nat.le_refl _)
        clear hf_h
        iterate 3 ((refine Plan.float_step (v := ?_) rfl (by rfl) (fun _ _ _ h => h) (fun w' hSw => ?_) ?_; rotate_left; · (go_simp; try with_reducible rfl)); (try simp only [Act.put, List.setIfInBounds_toArray, List.set_cons_zero, List.set_cons_succ]))
        have yq : w20.heap.size < w23.heap.size := by omega
        have xq0 : w23.cell? ⟨w20.heap.size, 0, none⟩ = some (.slice none 0 0) := hBq_23 0 _ rfl
        have fq := hFq_23
        refine Plan.chain_step rfl (fun K hK => ?_)
        go_simp
        have hcl : Ext w19 w23 := (Ext.trans (Ext.trans (Ext.trans hx20 hx21) hx22) hx23)
        refine hK.out _ _ (Ext.hold hcl) ?_
        clear hK
        (try simp only [Act.put, List.setIfInBounds_toArray, List.set_cons_zero, List.set_cons_succ])
        refine Plan.tail_step ?_
        simp only [List.drop_succ_cons, List.drop_zero]
        clear hS
        go_wp2_with fail
        go_meet
        exact ⟨w20.heap.size, _, _, F_h1, rfl, rfl, Ext.hold hcl, (by omega), (by first | omega | (simp; omega)), (by have := (Bx.put hBq_23 (j := 0) (by simp) ((.slice A_h1 ((tabPut t a).atoms).length c_h1))); simpa using this), fz_hold hFq_23, OwnSl.stay (OwnSl.up ho_h1 (fr_h.mk1 (Nat.le_refl _) (by omega)) (Ext.refl _)) (fun z hb => by
            have q := fr_h.2 z hb; have q1 := q.1; have q2 := q.2
            repeat (first | rw [heap_set _ _ _ _ (by show _ ≠ z; omega)] | rw [heap_set _ _ _ _ (by simp; omega)])), fr_h.mk1 (by first | omega | (simp; done) | (simp; omega)) (by first | omega | (simp; done) | (simp; omega))⟩
    · 
      refine Plan.chain_step rfl (fun K hK => ?_)
      go_simp
      refine hK.out _ _ (Ext.trans (Ext.refl _) (show Ext w19 (w19.alloc (.cells #[.slice none 0 0] 24)).drew from Ext.auto)) ?_
      clear hK
      (try simp only [Act.put, List.setIfInBounds_toArray, List.set_cons_zero, List.set_cons_succ])
      have hyA : Ext w19 (w19.alloc (.cells #[.slice none 0 0] 24)).drew := Ext.auto
      have hsA : w19.heap.size < (w19.alloc (.cells #[.slice none 0 0] 24)).drew.heap.size := by simp
      have hBA : Bx (w19.alloc (.cells #[.slice none 0 0] 24)).drew w19.heap.size [.slice none 0 0] := Bx.new w19 #[.slice none 0 0] 24
      have hFA : ∀ oo, (w19.alloc (.cells #[.slice none 0 0] 24)).drew.frozen? ⟨w19.heap.size, oo, none⟩ = false := fz_new w19 #[.slice none 0 0] 24 rfl
      generalize (w19.alloc (.cells #[.slice none 0 0] 24)).drew = w20 at *
      have hx20 : Ext w19 w20 := Ext.trans (Ext.auto) hyA
      have hs20 := hx20.size
      have he20 : Ext w w20 := he19.trans hx20
      have hBt_20 : Bx w20 (w.heap.size) [(.slice At1 t.atoms.length ct1)] := hx20.bx hBt_19 (by omega)
      have hFt_20 : ∀ oo, w20.frozen? ⟨w.heap.size, oo, none⟩ = false := fun oo => (hx20.frozen (by omega)).trans (hFt_19 oo)
      have hBa_20 : Bx w20 (w.heap.size + 1) [.int .i64 a.kind, .int .i64 a.k, (.slice Aa1 a.x.monos.length ca1), (.slice Aa2 a.y.monos.length ca2)] := hx20.bx hBa_19 (by omega)
      have hFa_20 : ∀ oo, w20.frozen? ⟨w.heap.size + 1, oo, none⟩ = false := fun oo => (hx20.frozen (by omega)).trans (hFa_19 oo)
      have hBw_20 : Bx w20 (q_w) [(.slice A_w1 ((tabPut t a).atoms).length c_w1)] := hx20.bx hBw_19 (by omega)
      have hFw_20 : ∀ oo, w20.frozen? ⟨q_w, oo, none⟩ = false := fun oo => (hx20.frozen (by omega)).trans (hFw_19 oo)
      have hBxt_20 : Bx w20 (w4.heap.size) [(.slice A_xt1 (t.atoms).length c_xt1)] := hx20.bx hBxt_19 (by omega)
      have hFxt_20 : ∀ oo, w20.frozen? ⟨w4.heap.size, oo, none⟩ = false := fun oo => (hx20.frozen (by omega)).trans (hFxt_19 oo)
      have hBxa_20 : Bx w20 (w6.heap.size) [.int .i64 a.kind, .int .i64 a.k, (.slice A_xa1 (a.x.monos).length c_xa1), (.slice A_xa2 (a.y.monos).length c_xa2)] := hx20.bx hBxa_19 (by omega)
      have hFxa_20 : ∀ oo, w20.frozen? ⟨w6.heap.size, oo, none⟩ = false := fun oo => (hx20.frozen (by omega)).trans (hFxa_19 oo)
      have hBg_20 : Bx w20 (w8.heap.size) [(.slice A_g1 ((tabPut t a).atoms).length c_g1)] := hx20.bx hBg_19 (by omega)
      have hFg_20 : ∀ oo, w20.frozen? ⟨w8.heap.size, oo, none⟩ = false := fun oo => (hx20.frozen (by omega)).trans (hFg_19 oo)
      clear hBt_19 hFt_19 hBa_19 hFa_19 hBw_19 hFw_19 hBxt_19 hFxt_19 hBxa_19 hFxa_19 hBg_19 hFg_19
      have hBq_20 := hBA
      have hFq_20 := hFA
      clear hBA hFA hyA
      refine Plan.chain_step rfl (fun K hK => ?_)
      go_simp
      refine (to_TabTab t _ _ (ht1.ext (Ext.trans he20 (Ext.auto))) nt).mono ?_
      rintro e w21 ⟨r_zt1, F_zt1, rfl, ho_zt1, hf_zt, hy⟩
      refine hK.out _ _ (Ext.trans hx20 hy) ?_
      clear hK
      (try simp only [Act.put, List.setIfInBounds_toArray, List.set_cons_zero, List.set_cons_succ])
      have hx21 : Ext w20 w21 := Ext.trans (Ext.auto) hy
      have hs21 := hx21.size
      have he21 : Ext w w21 := he20.trans hx21
      have hBt_21 : Bx w21 (w.heap.size) [(.slice At1 t.atoms.length ct1)] := hx21.bx hBt_20 (by omega)
      have hFt_21 : ∀ oo, w21.frozen? ⟨w.heap.size, oo, none⟩ = false := fun oo => (hx21.frozen (by omega)).trans (hFt_20 oo)
      have hBa_21 : Bx w21 (w.heap.size + 1) [.int .i64 a.kind, .int .i64 a.k, (.slice Aa1 a.x.monos.length ca1), (.slice Aa2 a.y.monos.length ca2)] := hx21.bx hBa_20 (by omega)
      have hFa_21 : ∀ oo, w21.frozen? ⟨w.heap.size + 1, oo, none⟩ = false := fun oo => (hx21.frozen (by omega)).trans (hFa_20 oo)
      have hBw_21 : Bx w21 (q_w) [(.slice A_w1 ((tabPut t a).atoms).length c_w1)] := hx21.bx hBw_20 (by omega)
      have hFw_21 : ∀ oo, w21.frozen? ⟨q_w, oo, none⟩ = false := fun oo => (hx21.frozen (by omega)).trans (hFw_20 oo)
      have hBxt_21 : Bx w21 (w4.heap.size) [(.slice A_xt1 (t.atoms).length c_xt1)] := hx21.bx hBxt_20 (by omega)
      have hFxt_21 : ∀ oo, w21.frozen? ⟨w4.heap.size, oo, none⟩ = false := fun oo => (hx21.frozen (by omega)).trans (hFxt_20 oo)
      have hBxa_21 : Bx w21 (w6.heap.size) [.int .i64 a.kind, .int .i64 a.k, (.slice A_xa1 (a.x.monos).length c_xa1), (.slice A_xa2 (a.y.monos).length c_xa2)] := hx21.bx hBxa_20 (by omega)
      have hFxa_21 : ∀ oo, w21.frozen? ⟨w6.heap.size, oo, none⟩ = false := fun oo => (hx21.frozen (by omega)).trans (hFxa_20 oo)
      have hBg_21 : Bx w21 (w8.heap.size) [(.slice A_g1 ((tabPut t a).atoms).length c_g1)] := hx21.bx hBg_20 (by omega)
      have hFg_21 : ∀ oo, w21.frozen? ⟨w8.heap.size, oo, none⟩ = false := fun oo => (hx21.frozen (by omega)).trans (hFg_20 oo)
      have hBq_21 : Bx w21 (w19.heap.size) [.slice none 0 0] := hx21.bx hBq_20 (by omega)
      have hFq_21 : ∀ oo, w21.frozen? ⟨w19.heap.size, oo, none⟩ = false := fun oo => (hx21.frozen (by omega)).trans (hFq_20 oo)
      clear hBt_20 hFt_20 hBa_20 hFa_20 hBw_20 hFw_20 hBxt_20 hFxt_20 hBxa_20 hFxa_20 hBg_20 hFg_20 hBq_20 hFq_20
      clear hy
      obtain ⟨A_zt1, c_zt1, rfl, -, -⟩ := ho_zt1.sl.form
      have fr_zt : Fr w20 w21 (F_zt1) := hf_zt.mk1 (by first | exact Nat.le_refl _ | (simp; done)) (Nat.le_refl _)
      clear hf_zt
      refine Plan.chain_step rfl (fun K hK => ?_)
      go_simp
      refine (to_TabAtom a _ _ _ (ha1.ext (Ext.trans he21 (Ext.auto))) (ha2.ext (Ext.trans he21 (Ext.auto))) na).mono ?_
      rintro e w22 ⟨r_za1, r_za2, F_za1, F_za2, rfl, ho_za1, ho_za2, hf_za, hy⟩
      refine hK.out _ _ (Ext.trans (Ext.trans hx20 hx21) hy) ?_
      clear hK
      (try simp only [Act.put, List.setIfInBounds_toArray, List.set_cons_zero, List.set_cons_succ])
      have hx22 : Ext w21 w22 := Ext.trans (Ext.auto) hy
      have hs22 := hx22.size
      have he22 : Ext w w22 := he21.trans hx22
      have hBt_22 : Bx w22 (w.heap.size) [(.slice At1 t.atoms.length ct1)] := hx22.bx hBt_21 (by omega)
      have hFt_22 : ∀ oo, w22.frozen? ⟨w.heap.size, oo, none⟩ = false := fun oo => (hx22.frozen (by omega)).trans (hFt_21 oo)
      have hBa_22 : Bx w22 (w.heap.size + 1) [.int .i64 a.kind, .int .i64 a.k, (.slice Aa1 a.x.monos.length ca1), (.slice Aa2 a.y.monos.length ca2)] := hx22.bx hBa_21 (by omega)
      have hFa_22 : ∀ oo, w22.frozen? ⟨w.heap.size + 1, oo, none⟩ = false := fun oo => (hx22.frozen (by omega)).trans (hFa_21 oo)
      have hBw_22 : Bx w22 (q_w) [(.slice A_w1 ((tabPut t a).atoms).length c_w1)] := hx22.bx hBw_21 (by omega)
      have hFw_22 : ∀ oo, w22.frozen? ⟨q_w, oo, none⟩ = false := fun oo => (hx22.frozen (by omega)).trans (hFw_21 oo)
      have hBxt_22 : Bx w22 (w4.heap.size) [(.slice A_xt1 (t.atoms).length c_xt1)] := hx22.bx hBxt_21 (by omega)
      have hFxt_22 : ∀ oo, w22.frozen? ⟨w4.heap.size, oo, none⟩ = false := fun oo => (hx22.frozen (by omega)).trans (hFxt_21 oo)
      have hBxa_22 : Bx w22 (w6.heap.size) [.int .i64 a.kind, .int .i64 a.k, (.slice A_xa1 (a.x.monos).length c_xa1), (.slice A_xa2 (a.y.monos).length c_xa2)] := hx22.bx hBxa_21 (by omega)
      have hFxa_22 : ∀ oo, w22.frozen? ⟨w6.heap.size, oo, none⟩ = false := fun oo => (hx22.frozen (by omega)).trans (hFxa_21 oo)
      have hBg_22 : Bx w22 (w8.heap.size) [(.slice A_g1 ((tabPut t a).atoms).length c_g1)] := hx22.bx hBg_21 (by omega)
      have hFg_22 : ∀ oo, w22.frozen? ⟨w8.heap.size, oo, none⟩ = false := fun oo => (hx22.frozen (by omega)).trans (hFg_21 oo)
      have hBq_22 : Bx w22 (w19.heap.size) [.slice none 0 0] := hx22.bx hBq_21 (by omega)
      have hFq_22 : ∀ oo, w22.frozen? ⟨w19.heap.size, oo, none⟩ = false := fun oo => (hx22.frozen (by omega)).trans (hFq_21 oo)
      clear hBt_21 hFt_21 hBa_21 hFa_21 hBw_21 hFw_21 hBxt_21 hFxt_21 hBxa_21 hFxa_21 hBg_21 hFg_21 hBq_21 hFq_21
      clear hy
      obtain ⟨A_za1, c_za1, rfl, -, -⟩ := ho_za1.sl.form
      obtain ⟨A_za2, c_za2, rfl, -, -⟩ := ho_za2.sl.form
      have fr_za : Fr w21 w22 (F_za1 ++ F_za2) := hf_za.mk1 (by first | exact Nat.le_refl _ | (simp; done)) (Nat.le_refl _)
      clear hf_za
      refine Plan.chain_step rfl (fun K hK => ?_)
      go_simp
      refine (implTabPut_any t a _ _ _ _ ((OwnSl.up ho_zt1 (fr_zt.mk1 (Nat.le_refl _) (by omega)) hx22).old (fr_zt.mk1 (Nat.le_refl _) (by omega))) ((OwnSl.up ho_za1 (fr_za.inl.mk1 (Nat.le_refl _) (by omega)) (Ext.refl _)).old (fr_za.inl.mk1 (Nat.le_refl _) (by omega))) ((OwnSl.up ho_za2 (fr_za.inr.mk1 (Nat.le_refl _) (by omega)) (Ext.refl _)).old (fr_za.inr.mk1 (Nat.le_refl _) (by omega))) hka (by omega) (by omega)).mono ?_
      rintro e w23 ⟨r_h1, F_h1, rfl, ho_h1, hf_h, hy⟩
      refine hK.out _ _ (Ext.trans (Ext.trans (Ext.trans hx20 hx21) hx22) hy) ?_
      clear hK
      (try simp only [Act.put, List.setIfInBounds_toArray, List.set_cons_zero, List.set_cons_succ])
      have hx23 : Ext w22 w23 := Ext.trans (Ext.auto) hy
      have hs23 := hx23.size
      have he23 : Ext w w23 := he22.trans hx23
      have hBt_23 : Bx w23 (w.heap.size) [(.slice At1 t.atoms.length ct1)] := hx23.bx hBt_22 (by omega)
      have hFt_23 : ∀ oo, w23.frozen? ⟨w.heap.size, oo, none⟩ = false := fun oo => (hx23.frozen (by omega)).trans (hFt_22 oo)
      have hBa_23 : Bx w23 (w.heap.size + 1) [.int .i64 a.kind, .int .i64 a.k, (.slice Aa1 a.x.monos.length ca1), (.slice Aa2 a.y.monos.length ca2)] := hx23.bx hBa_22 (by omega)
      have hFa_23 : ∀ oo, w23.frozen? ⟨w.heap.size + 1, oo, none⟩ = false := fun oo => (hx23.frozen (by omega)).trans (hFa_22 oo)
      have hBw_23 : Bx w23 (q_w) [(.slice A_w1 ((tabPut t a).atoms).length c_w1)] := hx23.bx hBw_22 (by omega)
      have hFw_23 : ∀ oo, w23.frozen? ⟨q_w, oo, none⟩ = false := fun oo => (hx23.frozen (by omega)).trans (hFw_22 oo)
      have hBxt_23 : Bx w23 (w4.heap.size) [(.slice A_xt1 (t.atoms).length c_xt1)] := hx23.bx hBxt_22 (by omega)
      have hFxt_23 : ∀ oo, w23.frozen? ⟨w4.heap.size, oo, none⟩ = false := fun oo => (hx23.frozen (by omega)).trans (hFxt_22 oo)
      have hBxa_23 : Bx w23 (w6.heap.size) [.int .i64 a.kind, .int .i64 a.k, (.slice A_xa1 (a.x.monos).length c_xa1), (.slice A_xa2 (a.y.monos).length c_xa2)] := hx23.bx hBxa_22 (by omega)
      have hFxa_23 : ∀ oo, w23.frozen? ⟨w6.heap.size, oo, none⟩ = false := fun oo => (hx23.frozen (by omega)).trans (hFxa_22 oo)
      have hBg_23 : Bx w23 (w8.heap.size) [(.slice A_g1 ((tabPut t a).atoms).length c_g1)] := hx23.bx hBg_22 (by omega)
      have hFg_23 : ∀ oo, w23.frozen? ⟨w8.heap.size, oo, none⟩ = false := fun oo => (hx23.frozen (by omega)).trans (hFg_22 oo)
      have hBq_23 : Bx w23 (w19.heap.size) [.slice none 0 0] := hx23.bx hBq_22 (by omega)
      have hFq_23 : ∀ oo, w23.frozen? ⟨w19.heap.size, oo, none⟩ = false := fun oo => (hx23.frozen (by omega)).trans (hFq_22 oo)
      clear hBt_22 hFt_22 hBa_22 hFa_22 hBw_22 hFw_22 hBxt_22 hFxt_22 hBxa_22 hFxa_22 hBg_22 hFg_22 hBq_22 hFq_22
      clear hy
      obtain ⟨A_h1, c_h1, rfl, -, -⟩ := ho_h1.sl.form
      have fr_h : Fr w22 w23 (F_h1) := hf_h.mk1 (by first | exact Nat.le_refl _ | (simp; done)) (Nat.le_refl _)
      clear hf_h
      iterate 3 ((refine Plan.float_step (v := ?_) rfl (by rfl) (fun _ _ _ h => h) (fun w' hSw => ?_) ?_; rotate_left; · (go_simp; try with_reducible rfl)); (try simp only [Act.put, List.setIfInBounds_toArray, List.set_cons_zero, List.set_cons_succ]))
      have yq : w19.heap.size < w23.heap.size := by omega
      have xq0 : w23.cell? ⟨w19.heap.size, 0, none⟩ = some (.slice none 0 0) := hBq_23 0 _ rfl
      have fq := hFq_23
      refine Plan.chain_step rfl (fun K hK => ?_)
      go_simp
      have hcl : Ext w19 w23 := (Ext.trans (Ext.trans (Ext.trans hx20 hx21) hx22) hx23)
      refine hK.out _ _ (Ext.hold hcl) ?_
      clear hK
      (try simp only [Act.put, List.setIfInBounds_toArray, List.set_cons_zero, List.set_cons_succ])
      refine Plan.tail_step ?_
      simp only [List.drop_succ_cons, List.drop_zero]
      clear hS
      go_wp2_with fail
      go_meet
      exact ⟨w19.heap.size, _, _, F_h1, rfl, rfl, Ext.hold hcl, (by omega), (by first | omega | (simp; omega)), (by have := (Bx.put hBq_23 (j := 0) (by simp) ((.slice A_h1 ((tabPut t a).atoms).length c_h1))); simpa using this), fz_hold hFq_23, OwnSl.stay (OwnSl.up ho_h1 (fr_h.mk1 (Nat.le_refl _) (by omega)) (Ext.refl _)) (fun z hb => by
          have q := fr_h.2 z hb; have q1 := q.1; have q2 := q.2
          repeat (first | rw [heap_set _ _ _ _ (by show _ ≠ z; omega)] | rw [heap_set _ _ _ _ (by simp; omega)])), fr_h.mk1 (by first | omega | (simp; done) | (simp; omega)) (by first | omega | (simp; done) | (simp; omega))⟩
  obtain ⟨q_h, A_h1, c_h1, F_h1, rfl, rfl, hy, hq0_h, hq1_h, hBq_, hFq_, ho_h1, fr_h⟩ := hcut
  obtain ⟨w20, hwc⟩ : ∃ w20 : World, w20 = wc := ⟨_, rfl⟩
  subst hwc
  have hx20 : Ext w19 w20 := Ext.trans (Ext.auto) hy
  have hs20 := hx20.size
  have he20 : Ext w w20 := he19.trans hx20
  have hBt_20 : Bx w20 (w.heap.size) [(.slice At1 t.atoms.length ct1)] := hx20.bx hBt_19 (by omega)
  have hFt_20 : ∀ oo, w20.frozen? ⟨w.heap.size, oo, none⟩ = false := fun oo => (hx20.frozen (by omega)).trans (hFt_19 oo)
  have hBa_20 : Bx w20 (w.heap.size + 1) [.int .i64 a.kind, .int .i64 a.k, (.slice Aa1 a.x.monos.length ca1), (.slice Aa2 a.y.monos.length ca2)] := hx20.bx hBa_19 (by omega)
  have hFa_20 : ∀ oo, w20.frozen? ⟨w.heap.size + 1, oo, none⟩ = false := fun oo => (hx20.frozen (by omega)).trans (hFa_19 oo)
  have hBw_20 : Bx w20 (q_w) [(.slice A_w1 ((tabPut t a).atoms).length c_w1)] := hx20.bx hBw_19 (by omega)
  have hFw_20 : ∀ oo, w20.frozen? ⟨q_w, oo, none⟩ = false := fun oo => (hx20.frozen (by omega)).trans (hFw_19 oo)
  have hBxt_20 : Bx w20 (w4.heap.size) [(.slice A_xt1 (t.atoms).length c_xt1)] := hx20.bx hBxt_19 (by omega)
  have hFxt_20 : ∀ oo, w20.frozen? ⟨w4.heap.size, oo, none⟩ = false := fun oo => (hx20.frozen (by omega)).trans (hFxt_19 oo)
  have hBxa_20 : Bx w20 (w6.heap.size) [.int .i64 a.kind, .int .i64 a.k, (.slice A_xa1 (a.x.monos).length c_xa1), (.slice A_xa2 (a.y.monos).length c_xa2)] := hx20.bx hBxa_19 (by omega)
  have hFxa_20 : ∀ oo, w20.frozen? ⟨w6.heap.size, oo, none⟩ = false := fun oo => (hx20.frozen (by omega)).trans (hFxa_19 oo)
  have hBg_20 : Bx w20 (w8.heap.size) [(.slice A_g1 ((tabPut t a).atoms).length c_g1)] := hx20.bx hBg_19 (by omega)
  have hFg_20 : ∀ oo, w20.frozen? ⟨w8.heap.size, oo, none⟩ = false := fun oo => (hx20.frozen (by omega)).trans (hFg_19 oo)
  clear hBt_19 hFt_19 hBa_19 hFa_19 hBw_19 hFw_19 hBxt_19 hFxt_19 hBxa_19 hFxa_19 hBg_19 hFg_19
  clear hy
  have hBh_20 := hBq_
  have hFh_20 := hFq_
  clear hBq_ hFq_
  have yh : q_h < w20.heap.size := by omega
  have xh0 : w20.cell? ⟨q_h, 0, none⟩ = some ((.slice A_h1 ((tabPut t a).atoms).length c_h1)) := hBh_20 0 _ rfl
  have yw : q_w < w20.heap.size := by omega
  have xw0 : w20.cell? ⟨q_w, 0, none⟩ = some ((.slice A_w1 ((tabPut t a).atoms).length c_w1)) := hBw_20 0 _ rfl
  go_wp2_with fail
  clear xh0 yh
  clear xw0 yw
  refine (eq_TabTab ((tabPut t a)) ((tabPut t a)) _ _  _ ((OwnSl.up ho_h1 (fr_h.mk1 (Nat.le_refl _) (by omega)) (Ext.refl _)).old (fr_h.mk1 (Nat.le_refl _) (by omega))) ((OwnSl.up ho_w1 (fr_w.mk1 (Nat.le_refl _) (by omega)) (Ext.trans hx19 hx20)).old (fr_w.mk1 (Nat.le_refl _) (by omega)))).mono ?_
  rintro e w21 ⟨rfl, hy⟩
  have hx21 : Ext w20 w21 := Ext.trans (Ext.auto) hy
  have hs21 := hx21.size
  have he21 : Ext w w21 := he20.trans hx21
  have hBt_21 : Bx w21 (w.heap.size) [(.slice At1 t.atoms.length ct1)] := hx21.bx hBt_20 (by omega)
  have hFt_21 : ∀ oo, w21.frozen? ⟨w.heap.size, oo, none⟩ = false := fun oo => (hx21.frozen (by omega)).trans (hFt_20 oo)
  have hBa_21 : Bx w21 (w.heap.size + 1) [.int .i64 a.kind, .int .i64 a.k, (.slice Aa1 a.x.monos.length ca1), (.slice Aa2 a.y.monos.length ca2)] := hx21.bx hBa_20 (by omega)
  have hFa_21 : ∀ oo, w21.frozen? ⟨w.heap.size + 1, oo, none⟩ = false := fun oo => (hx21.frozen (by omega)).trans (hFa_20 oo)
  have hBw_21 : Bx w21 (q_w) [(.slice A_w1 ((tabPut t a).atoms).length c_w1)] := hx21.bx hBw_20 (by omega)
  have hFw_21 : ∀ oo, w21.frozen? ⟨q_w, oo, none⟩ = false := fun oo => (hx21.frozen (by omega)).trans (hFw_20 oo)
  have hBxt_21 : Bx w21 (w4.heap.size) [(.slice A_xt1 (t.atoms).length c_xt1)] := hx21.bx hBxt_20 (by omega)
  have hFxt_21 : ∀ oo, w21.frozen? ⟨w4.heap.size, oo, none⟩ = false := fun oo => (hx21.frozen (by omega)).trans (hFxt_20 oo)
  have hBxa_21 : Bx w21 (w6.heap.size) [.int .i64 a.kind, .int .i64 a.k, (.slice A_xa1 (a.x.monos).length c_xa1), (.slice A_xa2 (a.y.monos).length c_xa2)] := hx21.bx hBxa_20 (by omega)
  have hFxa_21 : ∀ oo, w21.frozen? ⟨w6.heap.size, oo, none⟩ = false := fun oo => (hx21.frozen (by omega)).trans (hFxa_20 oo)
  have hBg_21 : Bx w21 (w8.heap.size) [(.slice A_g1 ((tabPut t a).atoms).length c_g1)] := hx21.bx hBg_20 (by omega)
  have hFg_21 : ∀ oo, w21.frozen? ⟨w8.heap.size, oo, none⟩ = false := fun oo => (hx21.frozen (by omega)).trans (hFg_20 oo)
  have hBh_21 : Bx w21 (q_h) [(.slice A_h1 ((tabPut t a).atoms).length c_h1)] := hx21.bx hBh_20 (by omega)
  have hFh_21 : ∀ oo, w21.frozen? ⟨q_h, oo, none⟩ = false := fun oo => (hx21.frozen (by omega)).trans (hFh_20 oo)
  clear hBt_20 hFt_20 hBa_20 hFa_20 hBw_20 hFw_20 hBxt_20 hFxt_20 hBxa_20 hFxa_20 hBg_20 hFg_20 hBh_20 hFh_20
  clear hy
  have yg : w8.heap.size < w21.heap.size := by omega
  have xg0 : w21.cell? ⟨w8.heap.size, 0, none⟩ = some ((.slice A_g1 ((tabPut t a).atoms).length c_g1)) := hBg_21 0 _ rfl
  go_wp2_with fail
  clear xg0 yg
  refine (held_TabTab ((tabPut t a)) _ (1) _ ((OwnSl.up hm_g1 (fr_g.mk1 (Nat.le_refl _) (by omega)) (Ext.trans (Ext.trans hx19 hx20) hx21)).old (fr_g.mk1 (Nat.le_refl _) (by omega))) (by omega) (by omega)).mono ?_
  rintro e w22 ⟨rfl, hy⟩
  have hx22 : Ext w21 w22 := Ext.trans (Ext.auto) hy
  have hs22 := hx22.size
  have he22 : Ext w w22 := he21.trans hx22
  have hBt_22 : Bx w22 (w.heap.size) [(.slice At1 t.atoms.length ct1)] := hx22.bx hBt_21 (by omega)
  have hFt_22 : ∀ oo, w22.frozen? ⟨w.heap.size, oo, none⟩ = false := fun oo => (hx22.frozen (by omega)).trans (hFt_21 oo)
  have hBa_22 : Bx w22 (w.heap.size + 1) [.int .i64 a.kind, .int .i64 a.k, (.slice Aa1 a.x.monos.length ca1), (.slice Aa2 a.y.monos.length ca2)] := hx22.bx hBa_21 (by omega)
  have hFa_22 : ∀ oo, w22.frozen? ⟨w.heap.size + 1, oo, none⟩ = false := fun oo => (hx22.frozen (by omega)).trans (hFa_21 oo)
  have hBw_22 : Bx w22 (q_w) [(.slice A_w1 ((tabPut t a).atoms).length c_w1)] := hx22.bx hBw_21 (by omega)
  have hFw_22 : ∀ oo, w22.frozen? ⟨q_w, oo, none⟩ = false := fun oo => (hx22.frozen (by omega)).trans (hFw_21 oo)
  have hBxt_22 : Bx w22 (w4.heap.size) [(.slice A_xt1 (t.atoms).length c_xt1)] := hx22.bx hBxt_21 (by omega)
  have hFxt_22 : ∀ oo, w22.frozen? ⟨w4.heap.size, oo, none⟩ = false := fun oo => (hx22.frozen (by omega)).trans (hFxt_21 oo)
  have hBxa_22 : Bx w22 (w6.heap.size) [.int .i64 a.kind, .int .i64 a.k, (.slice A_xa1 (a.x.monos).length c_xa1), (.slice A_xa2 (a.y.monos).length c_xa2)] := hx22.bx hBxa_21 (by omega)
  have hFxa_22 : ∀ oo, w22.frozen? ⟨w6.heap.size, oo, none⟩ = false := fun oo => (hx22.frozen (by omega)).trans (hFxa_21 oo)
  have hBg_22 : Bx w22 (w8.heap.size) [(.slice A_g1 ((tabPut t a).atoms).length c_g1)] := hx22.bx hBg_21 (by omega)
  have hFg_22 : ∀ oo, w22.frozen? ⟨w8.heap.size, oo, none⟩ = false := fun oo => (hx22.frozen (by omega)).trans (hFg_21 oo)
  have hBh_22 : Bx w22 (q_h) [(.slice A_h1 ((tabPut t a).atoms).length c_h1)] := hx22.bx hBh_21 (by omega)
  have hFh_22 : ∀ oo, w22.frozen? ⟨q_h, oo, none⟩ = false := fun oo => (hx22.frozen (by omega)).trans (hFh_21 oo)
  clear hBt_21 hFt_21 hBa_21 hFa_21 hBw_21 hFw_21 hBxt_21 hFxt_21 hBxa_21 hFxa_21 hBg_21 hFg_21 hBh_21 hFh_21
  clear hy
  go_wp2
  go_ret
  exact ⟨rfl, he22⟩

end Go.Proofs.Ytdmbgljkogpmdaa
