/-
  LaT
-/
import Derived.Test.YtmbclopkopfngaaQLaI
import Derived.Test.YtmbclopkopfngaaQRowLib
import Derived.Test.YtmbclopkopfngaaQMachLib
import Derived.Deep.DeepCutAuto
namespace Go.Proofs.Ytmbclopkopfngaa
open Go.RowKit

set_option linter.unusedVariables false
set_option linter.unusedSimpArgs false
set_option maxRecDepth 100000

set_option maxHeartbeats 16000000 in
theorem laTab_any (a : TabTab) (b : TabTab) (va1 vb1 : Value) (w : World) (ha1 : Sl w (Old w) va1 a.atoms) (hb1 : Sl w (Old w) vb1 b.atoms)  :
    Calls Try.prog 9 #[.agg #[va1], .agg #[vb1]] w fun e w' => e = .returned (.bool (decide (a = b))) ∧ Ext w w' := by
  obtain ⟨Aa1, ca1, rfl, hla1, hma1⟩ := ha1.form
  obtain ⟨Ab1, cb1, rfl, hlb1, hmb1⟩ := hb1.form
  unfold maxLen at hma1 hmb1
  by_cases hl : a.atoms.length = b.atoms.length
  rotate_left
  · 
    have q6 : ((a.atoms.length : Int) != (b.atoms.length : Int)) = true := by simp; omega
    have HC := hide (show decide (a = b) = false from decide_eq_false (fun e => hl (by rw [e])))
    clear hl
    go_enter Try.func9, Try.ntmps9
    go_upto_region 1 with fail
    have he0 : Ext w ((w.alloc (Obj.cells #[(.slice Aa1 a.atoms.length ca1)] 25)).alloc (Obj.cells #[(.slice Ab1 b.atoms.length cb1)] 25)) := (Ext.auto)
    have hs0 : w.heap.size + 2 ≤ (((w.alloc (Obj.cells #[(.slice Aa1 a.atoms.length ca1)] 25)).alloc (Obj.cells #[(.slice Ab1 b.atoms.length cb1)] 25))).heap.size := by simp
    have hq0 := hide (show (((w.alloc (Obj.cells #[(.slice Aa1 a.atoms.length ca1)] 25)).alloc (Obj.cells #[(.slice Ab1 b.atoms.length cb1)] 25))).heap.size = w.heap.size + 2 by simp)
    have hBa_0 : Bx ((w.alloc (Obj.cells #[(.slice Aa1 a.atoms.length ca1)] 25)).alloc (Obj.cells #[(.slice Ab1 b.atoms.length cb1)] 25)) (w.heap.size) [(.slice Aa1 a.atoms.length ca1)] := (by have := (Bx.alloc (Bx.new w #[(.slice Aa1 a.atoms.length ca1)] 25) (by simp) #[(.slice Ab1 b.atoms.length cb1)] 25); simpa using this)
    have hFa_0 : ∀ oo, (((w.alloc (Obj.cells #[(.slice Aa1 a.atoms.length ca1)] 25)).alloc (Obj.cells #[(.slice Ab1 b.atoms.length cb1)] 25))).frozen? ⟨w.heap.size, oo, none⟩ = false := fun oo => by simp
    have hBb_0 : Bx ((w.alloc (Obj.cells #[(.slice Aa1 a.atoms.length ca1)] 25)).alloc (Obj.cells #[(.slice Ab1 b.atoms.length cb1)] 25)) (w.heap.size + 1) [(.slice Ab1 b.atoms.length cb1)] := (by have := (Bx.new (w.alloc (Obj.cells #[(.slice Aa1 a.atoms.length ca1)] 25)) #[(.slice Ab1 b.atoms.length cb1)] 25); simpa using this)
    have hFb_0 : ∀ oo, (((w.alloc (Obj.cells #[(.slice Aa1 a.atoms.length ca1)] 25)).alloc (Obj.cells #[(.slice Ab1 b.atoms.length cb1)] 25))).frozen? ⟨w.heap.size + 1, oo, none⟩ = false := fun oo => by simp
    generalize ((w.alloc (Obj.cells #[(.slice Aa1 a.atoms.length ca1)] 25)).alloc (Obj.cells #[(.slice Ab1 b.atoms.length cb1)] 25)) = w0 at *
    have ya : w.heap.size < w0.heap.size := by omega
    have xa0 : w0.cell? ⟨w.heap.size, 0, none⟩ = some ((.slice Aa1 a.atoms.length ca1)) := hBa_0 0 _ rfl
    have yb : w.heap.size + 1 < w0.heap.size := by omega
    have xb0 : w0.cell? ⟨w.heap.size + 1, 0, none⟩ = some ((.slice Ab1 b.atoms.length cb1)) := hBb_0 0 _ rfl
    go_wp2
    go_ret
    exact ⟨by rw [HC.out]; rfl, Ext.hold he0⟩
  have q6 : ((a.atoms.length : Int) != (b.atoms.length : Int)) = false := by simp [hl]
  have HL := hide hl
  clear hl
  have HY := hide (fun (e : a.atoms = b.atoms) => (show decide (a = b) = true from decide_eq_true ((TabTab.eq_iff a b).2 e)))
  have HN := hide (fun (e : ¬ a.atoms = b.atoms) => (show decide (a = b) = false from decide_eq_false (fun q => e (by rw [q]))))
  go_enter Try.func9, Try.ntmps9
  go_upto_region 1 with fail
  have he0 : Ext w ((w.alloc (Obj.cells #[(.slice Aa1 a.atoms.length ca1)] 25)).alloc (Obj.cells #[(.slice Ab1 b.atoms.length cb1)] 25)) := (Ext.auto)
  have hs0 : w.heap.size + 2 ≤ (((w.alloc (Obj.cells #[(.slice Aa1 a.atoms.length ca1)] 25)).alloc (Obj.cells #[(.slice Ab1 b.atoms.length cb1)] 25))).heap.size := by simp
  have hq0 := hide (show (((w.alloc (Obj.cells #[(.slice Aa1 a.atoms.length ca1)] 25)).alloc (Obj.cells #[(.slice Ab1 b.atoms.length cb1)] 25))).heap.size = w.heap.size + 2 by simp)
  have hBa_0 : Bx ((w.alloc (Obj.cells #[(.slice Aa1 a.atoms.length ca1)] 25)).alloc (Obj.cells #[(.slice Ab1 b.atoms.length cb1)] 25)) (w.heap.size) [(.slice Aa1 a.atoms.length ca1)] := (by have := (Bx.alloc (Bx.new w #[(.slice Aa1 a.atoms.length ca1)] 25) (by simp) #[(.slice Ab1 b.atoms.length cb1)] 25); simpa using this)
  have hFa_0 : ∀ oo, (((w.alloc (Obj.cells #[(.slice Aa1 a.atoms.length ca1)] 25)).alloc (Obj.cells #[(.slice Ab1 b.atoms.length cb1)] 25))).frozen? ⟨w.heap.size, oo, none⟩ = false := fun oo => by simp
  have hBb_0 : Bx ((w.alloc (Obj.cells #[(.slice Aa1 a.atoms.length ca1)] 25)).alloc (Obj.cells #[(.slice Ab1 b.atoms.length cb1)] 25)) (w.heap.size + 1) [(.slice Ab1 b.atoms.length cb1)] := (by have := (Bx.new (w.alloc (Obj.cells #[(.slice Aa1 a.atoms.length ca1)] 25)) #[(.slice Ab1 b.atoms.length cb1)] 25); simpa using this)
  have hFb_0 : ∀ oo, (((w.alloc (Obj.cells #[(.slice Aa1 a.atoms.length ca1)] 25)).alloc (Obj.cells #[(.slice Ab1 b.atoms.length cb1)] 25))).frozen? ⟨w.heap.size + 1, oo, none⟩ = false := fun oo => by simp
  generalize ((w.alloc (Obj.cells #[(.slice Aa1 a.atoms.length ca1)] 25)).alloc (Obj.cells #[(.slice Ab1 b.atoms.length cb1)] 25)) = w0 at *
  have ya : w.heap.size < w0.heap.size := by omega
  have xa0 : w0.cell? ⟨w.heap.size, 0, none⟩ = some ((.slice Aa1 a.atoms.length ca1)) := hBa_0 0 _ rfl
  have yb : w.heap.size + 1 < w0.heap.size := by omega
  have xb0 : w0.cell? ⟨w.heap.size + 1, 0, none⟩ = some ((.slice Ab1 b.atoms.length cb1)) := hBb_0 0 _ rfl
  go_wp2
  clear xa0 ya
  clear xb0 yb
  clear q6
  go_loopw [5] (fun i wr => ∃ k : Nat, k ≤ a.atoms.length ∧ i = .int .i64 k ∧ Ext w0 wr ∧ a.atoms.take k = b.atoms.take k) (fun i _ => a.atoms.length - (intOf i).toNat)
  case atStart => exact ⟨0, by omega, rfl, Ext.refl _, rfl⟩
  case round =>
    obtain ⟨w1, hwr⟩ : ∃ w1 : World, w1 = wr := ⟨_, rfl⟩
    subst hwr
    obtain ⟨k, hk, rfl, hy, ht⟩ := hrel
    have HT := hide ht
    clear ht
    have hE1 := hy
    have hx1 : Ext w0 w1 := Ext.trans (Ext.auto) hy
    have hs1 := hx1.size
    have he1 : Ext w w1 := he0.trans hx1
    have hBa_1 : Bx w1 (w.heap.size) [(.slice Aa1 a.atoms.length ca1)] := hx1.bx hBa_0 (by omega)
    have hFa_1 : ∀ oo, w1.frozen? ⟨w.heap.size, oo, none⟩ = false := fun oo => (hx1.frozen (by omega)).trans (hFa_0 oo)
    have hBb_1 : Bx w1 (w.heap.size + 1) [(.slice Ab1 b.atoms.length cb1)] := hx1.bx hBb_0 (by omega)
    have hFb_1 : ∀ oo, w1.frozen? ⟨w.heap.size + 1, oo, none⟩ = false := fun oo => (hx1.frozen (by omega)).trans (hFb_0 oo)
    clear hBa_0 hFa_0 hBb_0 hFb_0
    clear hy
    by_cases hlt : k < a.atoms.length
    · 
      have hlt' : k < b.atoms.length := by have := HL.out; omega
      have TS := hide (take_both a.atoms b.atoms k hlt hlt' HT.out)
      have z0 : (0 : Int) ≤ (k : Int) := by omega
      have z1 : (k : Int) < (a.atoms.length : Int) := by omega
      have z2 : (k : Int) < (b.atoms.length : Int) := by omega
      obtain ⟨b1, off, va, vx, rfl, hbo, hk0, hva, hvx, e0, e1, e2, e3⟩ := at_TabAtom (ha1.ext he1) hlt
      obtain ⟨b1', off', vb, vy, rfl, hbo', hk0', hvb, hvy, g0, g1, g2, g3⟩ := at_TabAtom (hb1.ext he1) hlt'
      have hbo1 : b1 < w1.heap.size := hbo
      have hbo1' : b1' < w1.heap.size := hbo'
      obtain ⟨Ava, cva, rfl, -, -⟩ := hva.form
      obtain ⟨Avx, cvx, rfl, -, -⟩ := hvx.form
      obtain ⟨Avb, cvb, rfl, -, -⟩ := hvb.form
      obtain ⟨Avy, cvy, rfl, -, -⟩ := hvy.form
      obtain ⟨x, hx_⟩ : ∃ x, x = a.atoms[k] := ⟨_, rfl⟩
      obtain ⟨y, hy_⟩ : ∃ y, y = b.atoms[k] := ⟨_, rfl⟩
      rw [← hx_] at hva hvx e0 e1 e2 e3
      rw [← hy_] at hvb hvy g0 g1 g2 g3
      have HEQ := hide (show a.atoms[k] = b.atoms[k] ↔ x.kind = y.kind ∧ x.k = y.k ∧ x.x = y.x ∧ x.y = y.y by rw [hx_, hy_]; exact TabAtom.eq_iff _ _)
      clear hx_ hy_ hk0 hk0'
      have ya : w.heap.size < w1.heap.size := by omega
      have xa0 : w1.cell? ⟨w.heap.size, 0, none⟩ = some ((.slice (some ⟨b1, off, none⟩) a.atoms.length ca1)) := hBa_1 0 _ rfl
      have fa := hFa_1
      have yb : w.heap.size + 1 < w1.heap.size := by omega
      have xb0 : w1.cell? ⟨w.heap.size + 1, 0, none⟩ = some ((.slice (some ⟨b1', off', none⟩) b.atoms.length cb1)) := hBb_1 0 _ rfl
      have fb := hFb_1
      go_upto_region 8 with fail
      clear xa0 ya
      clear fa
      clear xb0 yb
      clear fb
      have hBx_2 : Bx ((w1.alloc (.cells #[.int .i64 x.kind, .int .i64 x.k, .slice Ava x.x.monos.length cva, .slice Avx x.y.monos.length cvx] 30)).alloc (.cells #[.int .i64 y.kind, .int .i64 y.k, .slice Avb y.x.monos.length cvb, .slice Avy y.y.monos.length cvy] 30)) w1.heap.size [.int .i64 x.kind, .int .i64 x.k, .slice Ava x.x.monos.length cva, .slice Avx x.y.monos.length cvx] := Bx.hold (Bx.new w1 #[.int .i64 x.kind, .int .i64 x.k, .slice Ava x.x.monos.length cva, .slice Avx x.y.monos.length cvx] 30)
      have hFx_2 : ∀ oo, ((w1.alloc (.cells #[.int .i64 x.kind, .int .i64 x.k, .slice Ava x.x.monos.length cva, .slice Avx x.y.monos.length cvx] 30)).alloc (.cells #[.int .i64 y.kind, .int .i64 y.k, .slice Avb y.x.monos.length cvb, .slice Avy y.y.monos.length cvy] 30)).frozen? ⟨w1.heap.size, oo, none⟩ = false := fz_hold (fz_new w1 #[.int .i64 x.kind, .int .i64 x.k, .slice Ava x.x.monos.length cva, .slice Avx x.y.monos.length cvx] 30 rfl)
      have hBy_2 : Bx ((w1.alloc (.cells #[.int .i64 x.kind, .int .i64 x.k, .slice Ava x.x.monos.length cva, .slice Avx x.y.monos.length cvx] 30)).alloc (.cells #[.int .i64 y.kind, .int .i64 y.k, .slice Avb y.x.monos.length cvb, .slice Avy y.y.monos.length cvy] 30)) (w1.heap.size + 1) [.int .i64 y.kind, .int .i64 y.k, .slice Avb y.x.monos.length cvb, .slice Avy y.y.monos.length cvy] := by have := Bx.new (w1.alloc (.cells #[.int .i64 x.kind, .int .i64 x.k, .slice Ava x.x.monos.length cva, .slice Avx x.y.monos.length cvx] 30)) #[.int .i64 y.kind, .int .i64 y.k, .slice Avb y.x.monos.length cvb, .slice Avy y.y.monos.length cvy] 30; simpa using this
      have hFy_2 : ∀ oo, ((w1.alloc (.cells #[.int .i64 x.kind, .int .i64 x.k, .slice Ava x.x.monos.length cva, .slice Avx x.y.monos.length cvx] 30)).alloc (.cells #[.int .i64 y.kind, .int .i64 y.k, .slice Avb y.x.monos.length cvb, .slice Avy y.y.monos.length cvy] 30)).frozen? ⟨w1.heap.size + 1, oo, none⟩ = false := by intro oo; simp
      have he2 : Ext w ((w1.alloc (.cells #[.int .i64 x.kind, .int .i64 x.k, .slice Ava x.x.monos.length cva, .slice Avx x.y.monos.length cvx] 30)).alloc (.cells #[.int .i64 y.kind, .int .i64 y.k, .slice Avb y.x.monos.length cvb, .slice Avy y.y.monos.length cvy] 30)) := Ext.hold he1
      have hx2 : Ext w1 ((w1.alloc (.cells #[.int .i64 x.kind, .int .i64 x.k, .slice Ava x.x.monos.length cva, .slice Avx x.y.monos.length cvx] 30)).alloc (.cells #[.int .i64 y.kind, .int .i64 y.k, .slice Avb y.x.monos.length cvb, .slice Avy y.y.monos.length cvy] 30)) := Ext.auto
      have hs2 : w1.heap.size + 2 ≤ (((w1.alloc (.cells #[.int .i64 x.kind, .int .i64 x.k, .slice Ava x.x.monos.length cva, .slice Avx x.y.monos.length cvx] 30)).alloc (.cells #[.int .i64 y.kind, .int .i64 y.k, .slice Avb y.x.monos.length cvb, .slice Avy y.y.monos.length cvy] 30))).heap.size := by simp
      have hBa_2 : Bx ((w1.alloc (.cells #[.int .i64 x.kind, .int .i64 x.k, .slice Ava x.x.monos.length cva, .slice Avx x.y.monos.length cvx] 30)).alloc (.cells #[.int .i64 y.kind, .int .i64 y.k, .slice Avb y.x.monos.length cvb, .slice Avy y.y.monos.length cvy] 30)) (w.heap.size) [(.slice (some ⟨b1, off, none⟩) a.atoms.length ca1)] := Bx.hold hBa_1
      have hFa_2 : ∀ oo, ((w1.alloc (.cells #[.int .i64 x.kind, .int .i64 x.k, .slice Ava x.x.monos.length cva, .slice Avx x.y.monos.length cvx] 30)).alloc (.cells #[.int .i64 y.kind, .int .i64 y.k, .slice Avb y.x.monos.length cvb, .slice Avy y.y.monos.length cvy] 30)).frozen? ⟨w.heap.size, oo, none⟩ = false := fz_hold hFa_1
      have hBb_2 : Bx ((w1.alloc (.cells #[.int .i64 x.kind, .int .i64 x.k, .slice Ava x.x.monos.length cva, .slice Avx x.y.monos.length cvx] 30)).alloc (.cells #[.int .i64 y.kind, .int .i64 y.k, .slice Avb y.x.monos.length cvb, .slice Avy y.y.monos.length cvy] 30)) (w.heap.size + 1) [(.slice (some ⟨b1', off', none⟩) b.atoms.length cb1)] := Bx.hold hBb_1
      have hFb_2 : ∀ oo, ((w1.alloc (.cells #[.int .i64 x.kind, .int .i64 x.k, .slice Ava x.x.monos.length cva, .slice Avx x.y.monos.length cvx] 30)).alloc (.cells #[.int .i64 y.kind, .int .i64 y.k, .slice Avb y.x.monos.length cvb, .slice Avy y.y.monos.length cvy] 30)).frozen? ⟨w.heap.size + 1, oo, none⟩ = false := fz_hold hFb_1
      generalize ((w1.alloc (.cells #[.int .i64 x.kind, .int .i64 x.k, .slice Ava x.x.monos.length cva, .slice Avx x.y.monos.length cvx] 30)).alloc (.cells #[.int .i64 y.kind, .int .i64 y.k, .slice Avb y.x.monos.length cvb, .slice Avy y.y.monos.length cvy] 30)) = w2 at *
      clear hBa_1 hFa_1 hBb_1 hFb_1
      clear e0 e1 e2 e3 g0 g1 g2 g3
      have hxE : Ext w1 w2 := hx2
      by_cases hc : x.kind = y.kind
      rotate_left
      · 
        have q0 : (x.kind != y.kind) = true := by simp [hc]
        have HQ := hide (fun e => hc (HEQ.out.1 e).1)
        clear hc
        have yx : w1.heap.size < w2.heap.size := by omega
        have xx0 := hBx_2 0 _ rfl
        have xx1 := hBx_2 1 _ rfl
        have xx2 := hBx_2 2 _ rfl
        have xx3 := hBx_2 3 _ rfl
        have fx := hFx_2
        have yy : w1.heap.size + 1 < w2.heap.size := by omega
        have xy0 := hBy_2 0 _ rfl
        have xy1 := hBy_2 1 _ rfl
        have xy2 := hBy_2 2 _ rfl
        have xy3 := hBy_2 3 _ rfl
        have fy := hFy_2
        go_wp2_with fail
        go_ret
        exact ⟨by rw [HN.out (TS.out.2 HQ.out)]; rfl, Ext.hold he2⟩
      have q0 : (x.kind != y.kind) = false := by simp [hc]
      have H0 := hide hc
      clear hc
      by_cases hc : x.k = y.k
      rotate_left
      · 
        have q1 : (x.k != y.k) = true := by simp [hc]
        have HQ := hide (fun e => hc (HEQ.out.1 e).2.1)
        clear hc
        have yx : w1.heap.size < w2.heap.size := by omega
        have xx0 := hBx_2 0 _ rfl
        have xx1 := hBx_2 1 _ rfl
        have xx2 := hBx_2 2 _ rfl
        have xx3 := hBx_2 3 _ rfl
        have fx := hFx_2
        have yy : w1.heap.size + 1 < w2.heap.size := by omega
        have xy0 := hBy_2 0 _ rfl
        have xy1 := hBy_2 1 _ rfl
        have xy2 := hBy_2 2 _ rfl
        have xy3 := hBy_2 3 _ rfl
        have fy := hFy_2
        go_wp2_with fail
        go_ret
        exact ⟨by rw [HN.out (TS.out.2 HQ.out)]; rfl, Ext.hold he2⟩
      have q1 : (x.k != y.k) = false := by simp [hc]
      have H1 := hide hc
      clear hc
      by_cases hc : x.x = y.x
      rotate_left
      · 
        have d0 : decide (x.x = y.x) = false := by simp [hc]
        have HQ := hide (fun e => hc (HEQ.out.1 e).2.2.1)
        clear hc
        have yx : w1.heap.size < w2.heap.size := by omega
        have xx0 := hBx_2 0 _ rfl
        have xx1 := hBx_2 1 _ rfl
        have xx2 := hBx_2 2 _ rfl
        have xx3 := hBx_2 3 _ rfl
        have fx := hFx_2
        have yy : w1.heap.size + 1 < w2.heap.size := by omega
        have xy0 := hBy_2 0 _ rfl
        have xy1 := hBy_2 1 _ rfl
        have xy2 := hBy_2 2 _ rfl
        have xy3 := hBy_2 3 _ rfl
        have fy := hFy_2
        go_wp2_with fail
        refine (laPoly_any x.x y.x _ _ _ (hva.ext (hxE.trans Ext.auto)) (hvb.ext (hxE.trans Ext.auto))).mono ?_
        rintro e w3 ⟨rfl, hy⟩
        rw [d0]
        clear xx0 xx1 xx2 xx3 yx
        clear fx
        clear xy0 xy1 xy2 xy3 yy
        clear fy
        have hx3 : Ext w2 w3 := Ext.trans (Ext.auto) hy
        have hs3 := hx3.size
        have he3 : Ext w w3 := he2.trans hx3
        have hBa_3 : Bx w3 (w.heap.size) [(.slice (some ⟨b1, off, none⟩) a.atoms.length ca1)] := hx3.bx hBa_2 (by omega)
        have hFa_3 : ∀ oo, w3.frozen? ⟨w.heap.size, oo, none⟩ = false := fun oo => (hx3.frozen (by omega)).trans (hFa_2 oo)
        have hBb_3 : Bx w3 (w.heap.size + 1) [(.slice (some ⟨b1', off', none⟩) b.atoms.length cb1)] := hx3.bx hBb_2 (by omega)
        have hFb_3 : ∀ oo, w3.frozen? ⟨w.heap.size + 1, oo, none⟩ = false := fun oo => (hx3.frozen (by omega)).trans (hFb_2 oo)
        have hBx_3 : Bx w3 (w1.heap.size) [.int .i64 x.kind, .int .i64 x.k, .slice Ava x.x.monos.length cva, .slice Avx x.y.monos.length cvx] := hx3.bx hBx_2 (by omega)
        have hFx_3 : ∀ oo, w3.frozen? ⟨w1.heap.size, oo, none⟩ = false := fun oo => (hx3.frozen (by omega)).trans (hFx_2 oo)
        have hBy_3 : Bx w3 (w1.heap.size + 1) [.int .i64 y.kind, .int .i64 y.k, .slice Avb y.x.monos.length cvb, .slice Avy y.y.monos.length cvy] := hx3.bx hBy_2 (by omega)
        have hFy_3 : ∀ oo, w3.frozen? ⟨w1.heap.size + 1, oo, none⟩ = false := fun oo => (hx3.frozen (by omega)).trans (hFy_2 oo)
        clear hBa_2 hFa_2 hBb_2 hFb_2 hBx_2 hFx_2 hBy_2 hFy_2
        clear hy
        have yx : w1.heap.size < w3.heap.size := by omega
        have xx0 := hBx_3 0 _ rfl
        have xx1 := hBx_3 1 _ rfl
        have xx2 := hBx_3 2 _ rfl
        have xx3 := hBx_3 3 _ rfl
        have fx := hFx_3
        have yy : w1.heap.size + 1 < w3.heap.size := by omega
        have xy0 := hBy_3 0 _ rfl
        have xy1 := hBy_3 1 _ rfl
        have xy2 := hBy_3 2 _ rfl
        have xy3 := hBy_3 3 _ rfl
        have fy := hFy_3
        go_wp2_with fail
        go_ret
        exact ⟨by rw [HN.out (TS.out.2 HQ.out)]; rfl, Ext.hold he3⟩
      have d0 : decide (x.x = y.x) = true := by simp [hc]
      have G0 := hide hc
      clear hc
      by_cases hc : x.y = y.y
      rotate_left
      · 
        have d1 : decide (x.y = y.y) = false := by simp [hc]
        have HQ := hide (fun e => hc (HEQ.out.1 e).2.2.2)
        clear hc
        have yx : w1.heap.size < w2.heap.size := by omega
        have xx0 := hBx_2 0 _ rfl
        have xx1 := hBx_2 1 _ rfl
        have xx2 := hBx_2 2 _ rfl
        have xx3 := hBx_2 3 _ rfl
        have fx := hFx_2
        have yy : w1.heap.size + 1 < w2.heap.size := by omega
        have xy0 := hBy_2 0 _ rfl
        have xy1 := hBy_2 1 _ rfl
        have xy2 := hBy_2 2 _ rfl
        have xy3 := hBy_2 3 _ rfl
        have fy := hFy_2
        go_wp2_with fail
        refine (laPoly_any x.x y.x _ _ _ (hva.ext (hxE.trans Ext.auto)) (hvb.ext (hxE.trans Ext.auto))).mono ?_
        rintro e w3 ⟨rfl, hy⟩
        rw [d0]
        clear xx0 xx1 xx2 xx3 yx
        clear fx
        clear xy0 xy1 xy2 xy3 yy
        clear fy
        have hx3 : Ext w2 w3 := Ext.trans (Ext.auto) hy
        have hs3 := hx3.size
        have he3 : Ext w w3 := he2.trans hx3
        have hBa_3 : Bx w3 (w.heap.size) [(.slice (some ⟨b1, off, none⟩) a.atoms.length ca1)] := hx3.bx hBa_2 (by omega)
        have hFa_3 : ∀ oo, w3.frozen? ⟨w.heap.size, oo, none⟩ = false := fun oo => (hx3.frozen (by omega)).trans (hFa_2 oo)
        have hBb_3 : Bx w3 (w.heap.size + 1) [(.slice (some ⟨b1', off', none⟩) b.atoms.length cb1)] := hx3.bx hBb_2 (by omega)
        have hFb_3 : ∀ oo, w3.frozen? ⟨w.heap.size + 1, oo, none⟩ = false := fun oo => (hx3.frozen (by omega)).trans (hFb_2 oo)
        have hBx_3 : Bx w3 (w1.heap.size) [.int .i64 x.kind, .int .i64 x.k, .slice Ava x.x.monos.length cva, .slice Avx x.y.monos.length cvx] := hx3.bx hBx_2 (by omega)
        have hFx_3 : ∀ oo, w3.frozen? ⟨w1.heap.size, oo, none⟩ = false := fun oo => (hx3.frozen (by omega)).trans (hFx_2 oo)
        have hBy_3 : Bx w3 (w1.heap.size + 1) [.int .i64 y.kind, .int .i64 y.k, .slice Avb y.x.monos.length cvb, .slice Avy y.y.monos.length cvy] := hx3.bx hBy_2 (by omega)
        have hFy_3 : ∀ oo, w3.frozen? ⟨w1.heap.size + 1, oo, none⟩ = false := fun oo => (hx3.frozen (by omega)).trans (hFy_2 oo)
        clear hBa_2 hFa_2 hBb_2 hFb_2 hBx_2 hFx_2 hBy_2 hFy_2
        clear hy
        have yx : w1.heap.size < w3.heap.size := by omega
        have xx0 := hBx_3 0 _ rfl
        have xx1 := hBx_3 1 _ rfl
        have xx2 := hBx_3 2 _ rfl
        have xx3 := hBx_3 3 _ rfl
        have fx := hFx_3
        have yy : w1.heap.size + 1 < w3.heap.size := by omega
        have xy0 := hBy_3 0 _ rfl
        have xy1 := hBy_3 1 _ rfl
        have xy2 := hBy_3 2 _ rfl
        have xy3 := hBy_3 3 _ rfl
        have fy := hFy_3
        go_wp2_with fail
        refine (laPoly_any x.y y.y _ _ _ (hvx.ext ((hxE.trans hx3).trans Ext.auto)) (hvy.ext ((hxE.trans hx3).trans Ext.auto))).mono ?_
        rintro e w4 ⟨rfl, hy⟩
        rw [d1]
        clear xx0 xx1 xx2 xx3 yx
        clear fx
        clear xy0 xy1 xy2 xy3 yy
        clear fy
        have hx4 : Ext w3 w4 := Ext.trans (Ext.auto) hy
        have hs4 := hx4.size
        have he4 : Ext w w4 := he3.trans hx4
        have hBa_4 : Bx w4 (w.heap.size) [(.slice (some ⟨b1, off, none⟩) a.atoms.length ca1)] := hx4.bx hBa_3 (by omega)
        have hFa_4 : ∀ oo, w4.frozen? ⟨w.heap.size, oo, none⟩ = false := fun oo => (hx4.frozen (by omega)).trans (hFa_3 oo)
        have hBb_4 : Bx w4 (w.heap.size + 1) [(.slice (some ⟨b1', off', none⟩) b.atoms.length cb1)] := hx4.bx hBb_3 (by omega)
        have hFb_4 : ∀ oo, w4.frozen? ⟨w.heap.size + 1, oo, none⟩ = false := fun oo => (hx4.frozen (by omega)).trans (hFb_3 oo)
        have hBx_4 : Bx w4 (w1.heap.size) [.int .i64 x.kind, .int .i64 x.k, .slice Ava x.x.monos.length cva, .slice Avx x.y.monos.length cvx] := hx4.bx hBx_3 (by omega)
        have hFx_4 : ∀ oo, w4.frozen? ⟨w1.heap.size, oo, none⟩ = false := fun oo => (hx4.frozen (by omega)).trans (hFx_3 oo)
        have hBy_4 : Bx w4 (w1.heap.size + 1) [.int .i64 y.kind, .int .i64 y.k, .slice Avb y.x.monos.length cvb, .slice Avy y.y.monos.length cvy] := hx4.bx hBy_3 (by omega)
        have hFy_4 : ∀ oo, w4.frozen? ⟨w1.heap.size + 1, oo, none⟩ = false := fun oo => (hx4.frozen (by omega)).trans (hFy_3 oo)
        clear hBa_3 hFa_3 hBb_3 hFb_3 hBx_3 hFx_3 hBy_3 hFy_3
        clear hy
        have yx : w1.heap.size < w4.heap.size := by omega
        have xx0 := hBx_4 0 _ rfl
        have xx1 := hBx_4 1 _ rfl
        have xx2 := hBx_4 2 _ rfl
        have xx3 := hBx_4 3 _ rfl
        have fx := hFx_4
        have yy : w1.heap.size + 1 < w4.heap.size := by omega
        have xy0 := hBy_4 0 _ rfl
        have xy1 := hBy_4 1 _ rfl
        have xy2 := hBy_4 2 _ rfl
        have xy3 := hBy_4 3 _ rfl
        have fy := hFy_4
        go_wp2_with fail
        go_ret
        exact ⟨by rw [HN.out (TS.out.2 HQ.out)]; rfl, Ext.hold he4⟩
      have d1 : decide (x.y = y.y) = true := by simp [hc]
      have G1 := hide hc
      clear hc
      have HQ := hide (HEQ.out.2 ⟨H0.out, H1.out, G0.out, G1.out⟩)
      have yx : w1.heap.size < w2.heap.size := by omega
      have xx0 := hBx_2 0 _ rfl
      have xx1 := hBx_2 1 _ rfl
      have xx2 := hBx_2 2 _ rfl
      have xx3 := hBx_2 3 _ rfl
      have fx := hFx_2
      have yy : w1.heap.size + 1 < w2.heap.size := by omega
      have xy0 := hBy_2 0 _ rfl
      have xy1 := hBy_2 1 _ rfl
      have xy2 := hBy_2 2 _ rfl
      have xy3 := hBy_2 3 _ rfl
      have fy := hFy_2
      go_wp2_with fail
      refine (laPoly_any x.x y.x _ _ _ (hva.ext (hxE.trans Ext.auto)) (hvb.ext (hxE.trans Ext.auto))).mono ?_
      rintro e w3 ⟨rfl, hy⟩
      rw [d0]
      clear xx0 xx1 xx2 xx3 yx
      clear fx
      clear xy0 xy1 xy2 xy3 yy
      clear fy
      have hx3 : Ext w2 w3 := Ext.trans (Ext.auto) hy
      have hs3 := hx3.size
      have he3 : Ext w w3 := he2.trans hx3
      have hBa_3 : Bx w3 (w.heap.size) [(.slice (some ⟨b1, off, none⟩) a.atoms.length ca1)] := hx3.bx hBa_2 (by omega)
      have hFa_3 : ∀ oo, w3.frozen? ⟨w.heap.size, oo, none⟩ = false := fun oo => (hx3.frozen (by omega)).trans (hFa_2 oo)
      have hBb_3 : Bx w3 (w.heap.size + 1) [(.slice (some ⟨b1', off', none⟩) b.atoms.length cb1)] := hx3.bx hBb_2 (by omega)
      have hFb_3 : ∀ oo, w3.frozen? ⟨w.heap.size + 1, oo, none⟩ = false := fun oo => (hx3.frozen (by omega)).trans (hFb_2 oo)
      have hBx_3 : Bx w3 (w1.heap.size) [.int .i64 x.kind, .int .i64 x.k, .slice Ava x.x.monos.length cva, .slice Avx x.y.monos.length cvx] := hx3.bx hBx_2 (by omega)
      have hFx_3 : ∀ oo, w3.frozen? ⟨w1.heap.size, oo, none⟩ = false := fun oo => (hx3.frozen (by omega)).trans (hFx_2 oo)
      have hBy_3 : Bx w3 (w1.heap.size + 1) [.int .i64 y.kind, .int .i64 y.k, .slice Avb y.x.monos.length cvb, .slice Avy y.y.monos.length cvy] := hx3.bx hBy_2 (by omega)
      have hFy_3 : ∀ oo, w3.frozen? ⟨w1.heap.size + 1, oo, none⟩ = false := fun oo => (hx3.frozen (by omega)).trans (hFy_2 oo)
      clear hBa_2 hFa_2 hBb_2 hFb_2 hBx_2 hFx_2 hBy_2 hFy_2
      clear hy
      have yx : w1.heap.size < w3.heap.size := by omega
      have xx0 := hBx_3 0 _ rfl
      have xx1 := hBx_3 1 _ rfl
      have xx2 := hBx_3 2 _ rfl
      have xx3 := hBx_3 3 _ rfl
      have fx := hFx_3
      have yy : w1.heap.size + 1 < w3.heap.size := by omega
      have xy0 := hBy_3 0 _ rfl
      have xy1 := hBy_3 1 _ rfl
      have xy2 := hBy_3 2 _ rfl
      have xy3 := hBy_3 3 _ rfl
      have fy := hFy_3
      go_wp2_with fail
      refine (laPoly_any x.y y.y _ _ _ (hvx.ext ((hxE.trans hx3).trans Ext.auto)) (hvy.ext ((hxE.trans hx3).trans Ext.auto))).mono ?_
      rintro e w4 ⟨rfl, hy⟩
      rw [d1]
      clear xx0 xx1 xx2 xx3 yx
      clear fx
      clear xy0 xy1 xy2 xy3 yy
      clear fy
      have hx4 : Ext w3 w4 := Ext.trans (Ext.auto) hy
      have hs4 := hx4.size
      have he4 : Ext w w4 := he3.trans hx4
      have hBa_4 : Bx w4 (w.heap.size) [(.slice (some ⟨b1, off, none⟩) a.atoms.length ca1)] := hx4.bx hBa_3 (by omega)
      have hFa_4 : ∀ oo, w4.frozen? ⟨w.heap.size, oo, none⟩ = false := fun oo => (hx4.frozen (by omega)).trans (hFa_3 oo)
      have hBb_4 : Bx w4 (w.heap.size + 1) [(.slice (some ⟨b1', off', none⟩) b.atoms.length cb1)] := hx4.bx hBb_3 (by omega)
      have hFb_4 : ∀ oo, w4.frozen? ⟨w.heap.size + 1, oo, none⟩ = false := fun oo => (hx4.frozen (by omega)).trans (hFb_3 oo)
      have hBx_4 : Bx w4 (w1.heap.size) [.int .i64 x.kind, .int .i64 x.k, .slice Ava x.x.monos.length cva, .slice Avx x.y.monos.length cvx] := hx4.bx hBx_3 (by omega)
      have hFx_4 : ∀ oo, w4.frozen? ⟨w1.heap.size, oo, none⟩ = false := fun oo => (hx4.frozen (by omega)).trans (hFx_3 oo)
      have hBy_4 : Bx w4 (w1.heap.size + 1) [.int .i64 y.kind, .int .i64 y.k, .slice Avb y.x.monos.length cvb, .slice Avy y.y.monos.length cvy] := hx4.bx hBy_3 (by omega)
      have hFy_4 : ∀ oo, w4.frozen? ⟨w1.heap.size + 1, oo, none⟩ = false := fun oo => (hx4.frozen (by omega)).trans (hFy_3 oo)
      clear hBa_3 hFa_3 hBb_3 hFb_3 hBx_3 hFx_3 hBy_3 hFy_3
      clear hy
      have yx : w1.heap.size < w4.heap.size := by omega
      have xx0 := hBx_4 0 _ rfl
      have xx1 := hBx_4 1 _ rfl
      have xx2 := hBx_4 2 _ rfl
      have xx3 := hBx_4 3 _ rfl
      have fx := hFx_4
      have yy : w1.heap.size + 1 < w4.heap.size := by omega
      have xy0 := hBy_4 0 _ rfl
      have xy1 := hBy_4 1 _ rfl
      have xy2 := hBy_4 2 _ rfl
      have xy3 := hBy_4 3 _ rfl
      have fy := hFy_4
      have hE2 : Ext w0 w4 := (hE1.trans hxE).trans (hx3.trans hx4)
      go_wp2_with fail
      go_roundw
      case rel => exact ⟨k + 1, by omega, by go_num, Ext.hold hE2, TS.out.1 HQ.out⟩
      case measure => simp [intOf]; omega
    · 
      have ya : w.heap.size < w1.heap.size := by omega
      have xa0 : w1.cell? ⟨w.heap.size, 0, none⟩ = some ((.slice Aa1 a.atoms.length ca1)) := hBa_1 0 _ rfl
      have yb : w.heap.size + 1 < w1.heap.size := by omega
      have xb0 : w1.cell? ⟨w.heap.size + 1, 0, none⟩ = some ((.slice Ab1 b.atoms.length cb1)) := hBb_1 0 _ rfl
      obtain rfl : k = a.atoms.length := by omega
      have HF := hide (HY.out (take_all a.atoms b.atoms HL.out HT.out))
      go_wp2
      go_ret
      exact ⟨by rw [HF.out]; rfl, he0.trans hE1⟩

end Go.Proofs.Ytmbclopkopfngaa
