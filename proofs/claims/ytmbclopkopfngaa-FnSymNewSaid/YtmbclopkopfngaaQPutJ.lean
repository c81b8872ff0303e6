/-
  PutJ
-/
import Derived.Test.YtmbclopkopfngaaQTabC
import Derived.Test.YtmbclopkopfngaaQTabF
import Derived.Test.YtmbclopkopfngaaQPutL
import Derived.Test.YtmbclopkopfngaaQRegLib
import Derived.Test.YtmbclopkopfngaaQCertLib
import Derived.Deep.DeepCutAuto
namespace Go.Proofs.Ytmbclopkopfngaa
open Go.RowKit

set_option linter.unusedVariables false
set_option linter.unusedSimpArgs false
set_option maxRecDepth 100000

set_option maxHeartbeats 32000000 in
theorem putTabS_any (S : Nat → Prop) (t : TabTab) (a : TabAtom) (vt1 va1 va2 : Value) (w : World) (ht1 : Sl w (Old w) vt1 t.atoms) (ha1 : Sl w (Old w) va1 a.x.monos) (ha2 : Sl w (Old w) va2 a.y.monos) (hSO : ∀ b, S b → b < w.heap.size) (hT : Sl w S vt1 t.atoms) (hX : Sl w S va1 a.x.monos) (hY : Sl w S va2 a.y.monos) (hka : a.Ok) (hok : tabOkB t = true) (hbx : a.x.monos.length ≤ 4194304) (hby : a.y.monos.length ≤ 4194304) :
    Calls Try.prog 27 #[.agg #[vt1], .agg #[.int .i64 a.kind, .int .i64 a.k, va1, va2]] w fun e w' => ∃ r, e = .returned (.tuple #[.agg #[r], .int .i64 (tabPutAt t a)]) ∧ Sl w' (fun b => S b ∨ (w.heap.size ≤ b ∧ b < w'.heap.size)) r (tabPut t a).atoms ∧ Ext w w' := by
  have HO := hide hok
  have hl200 : t.atoms.length ≤ 200 := by unfold tabOkB at hok; simp only [Bool.and_eq_true, decide_eq_true_eq] at hok; exact hok.1
  clear hok
  obtain ⟨At1, ct1, rfl, hlt1, hmt1⟩ := ht1.form
  obtain ⟨Aa1, ca1, rfl, hla1, hma1⟩ := ha1.form
  obtain ⟨Aa2, ca2, rfl, hla2, hma2⟩ := ha2.form
  unfold maxLen at hmt1 hma1 hma2
  obtain ⟨i0a, hi_, hz0, hz1, hz2⟩ := info_parts infTabAtom
  have HIa := hide hi_
  have HZ0a := hide hz0
  have HZ1a := hide hz1
  have HZ2a := hide hz2
  clear hi_ hz0 hz1 hz2
  have HT0 := hide (show tabPut t a = (if (atomOkB a (t.atoms.length : Int) && (findT t.atoms a == -1) && decide (t.atoms.length < 200)) = true then ⟨t.atoms ++ [a]⟩ else t) by unfold tabPut; rw [if_pos HO.out])
  have HN0 := hide (show tabPutAt t a = (if atomOkB a (t.atoms.length : Int) = true then (if findT t.atoms a = -1 then (if t.atoms.length < 200 then (t.atoms.length : Int) else -1) else findT t.atoms a) else -1) by unfold tabPutAt; rw [if_pos HO.out])
  rcases findT_cases t.atoms a with hf | ⟨k, hk, hf, -, -⟩
  rotate_left
  · 
    have HFD := hide hf
    have HQ := hide (tab_found HO.out (show findT t.atoms a ≠ -1 by omega))
    clear hf
    have z0 : (0 : Int) ≤ (k : Int) := by omega
    have HT := hide (show tabPut t a = t by rw [HT0.out, HFD.out]; rw [if_neg]; simp)
    have HN := hide (show tabPutAt t a = (k : Int) by rw [HN0.out, HQ.out, HFD.out, if_pos rfl]; rw [if_neg (by omega)])
    go_enter Try.func27, Try.ntmps27
    go_upto_region 1 with fail
    have he0 : Ext w (((w.alloc (Obj.cells #[(.slice At1 t.atoms.length ct1)] 25)).alloc (Obj.cells #[.int .i64 a.kind, .int .i64 a.k, (.slice Aa1 a.x.monos.length ca1), (.slice Aa2 a.y.monos.length ca2)] 30)).alloc (Obj.cells #[.slice none 0 0] 25)) := (Ext.auto)
    have hs0 : w.heap.size + 3 ≤ ((((w.alloc (Obj.cells #[(.slice At1 t.atoms.length ct1)] 25)).alloc (Obj.cells #[.int .i64 a.kind, .int .i64 a.k, (.slice Aa1 a.x.monos.length ca1), (.slice Aa2 a.y.monos.length ca2)] 30)).alloc (Obj.cells #[.slice none 0 0] 25))).heap.size := by simp
    have hq0 := hide (show ((((w.alloc (Obj.cells #[(.slice At1 t.atoms.length ct1)] 25)).alloc (Obj.cells #[.int .i64 a.kind, .int .i64 a.k, (.slice Aa1 a.x.monos.length ca1), (.slice Aa2 a.y.monos.length ca2)] 30)).alloc (Obj.cells #[.slice none 0 0] 25))).heap.size = w.heap.size + 3 by simp)
    have hBt_0 : Bx (((w.alloc (Obj.cells #[(.slice At1 t.atoms.length ct1)] 25)).alloc (Obj.cells #[.int .i64 a.kind, .int .i64 a.k, (.slice Aa1 a.x.monos.length ca1), (.slice Aa2 a.y.monos.length ca2)] 30)).alloc (Obj.cells #[.slice none 0 0] 25)) (w.heap.size) [(.slice At1 t.atoms.length ct1)] := (by have := (Bx.alloc (Bx.alloc (Bx.new w #[(.slice At1 t.atoms.length ct1)] 25) (by simp) #[.int .i64 a.kind, .int .i64 a.k, (.slice Aa1 a.x.monos.length ca1), (.slice Aa2 a.y.monos.length ca2)] 30) (by first | (simp; done) | (simp; omega)) #[.slice none 0 0] 25); simpa using this)
    have hFt_0 : ∀ oo, ((((w.alloc (Obj.cells #[(.slice At1 t.atoms.length ct1)] 25)).alloc (Obj.cells #[.int .i64 a.kind, .int .i64 a.k, (.slice Aa1 a.x.monos.length ca1), (.slice Aa2 a.y.monos.length ca2)] 30)).alloc (Obj.cells #[.slice none 0 0] 25))).frozen? ⟨w.heap.size, oo, none⟩ = false := (fz_alloc (fz_alloc (fz_new w #[(.slice At1 t.atoms.length ct1)] 25 (by first | rfl | (simp; done))) (by first | (simp; done) | (simp; omega)) (Obj.cells #[.int .i64 a.kind, .int .i64 a.k, (.slice Aa1 a.x.monos.length ca1), (.slice Aa2 a.y.monos.length ca2)] 30)) (by first | (simp; done) | (simp; omega)) (Obj.cells #[.slice none 0 0] 25))
    have hBa_0 : Bx (((w.alloc (Obj.cells #[(.slice At1 t.atoms.length ct1)] 25)).alloc (Obj.cells #[.int .i64 a.kind, .int .i64 a.k, (.slice Aa1 a.x.monos.length ca1), (.slice Aa2 a.y.monos.length ca2)] 30)).alloc (Obj.cells #[.slice none 0 0] 25)) (w.heap.size + 1) [.int .i64 a.kind, .int .i64 a.k, (.slice Aa1 a.x.monos.length ca1), (.slice Aa2 a.y.monos.length ca2)] := (by have := (Bx.alloc (Bx.new (w.alloc (Obj.cells #[(.slice At1 t.atoms.length ct1)] 25)) #[.int .i64 a.kind, .int .i64 a.k, (.slice Aa1 a.x.monos.length ca1), (.slice Aa2 a.y.monos.length ca2)] 30) (by simp) #[.slice none 0 0] 25); simpa using this)
    have hFa_0 : ∀ oo, ((((w.alloc (Obj.cells #[(.slice At1 t.atoms.length ct1)] 25)).alloc (Obj.cells #[.int .i64 a.kind, .int .i64 a.k, (.slice Aa1 a.x.monos.length ca1), (.slice Aa2 a.y.monos.length ca2)] 30)).alloc (Obj.cells #[.slice none 0 0] 25))).frozen? ⟨w.heap.size + 1, oo, none⟩ = false := (fz_alloc (fz_new (w.alloc (Obj.cells #[(.slice At1 t.atoms.length ct1)] 25)) #[.int .i64 a.kind, .int .i64 a.k, (.slice Aa1 a.x.monos.length ca1), (.slice Aa2 a.y.monos.length ca2)] 30 (by first | rfl | (simp; done))) (by first | (simp; done) | (simp; omega)) (Obj.cells #[.slice none 0 0] 25))
    have hBres_0 : Bx (((w.alloc (Obj.cells #[(.slice At1 t.atoms.length ct1)] 25)).alloc (Obj.cells #[.int .i64 a.kind, .int .i64 a.k, (.slice Aa1 a.x.monos.length ca1), (.slice Aa2 a.y.monos.length ca2)] 30)).alloc (Obj.cells #[.slice none 0 0] 25)) (w.heap.size + 1 + 1) [.slice none 0 0] := (by have := (Bx.new ((w.alloc (Obj.cells #[(.slice At1 t.atoms.length ct1)] 25)).alloc (Obj.cells #[.int .i64 a.kind, .int .i64 a.k, (.slice Aa1 a.x.monos.length ca1), (.slice Aa2 a.y.monos.length ca2)] 30)) #[.slice none 0 0] 25); simpa using this)
    have hFres_0 : ∀ oo, ((((w.alloc (Obj.cells #[(.slice At1 t.atoms.length ct1)] 25)).alloc (Obj.cells #[.int .i64 a.kind, .int .i64 a.k, (.slice Aa1 a.x.monos.length ca1), (.slice Aa2 a.y.monos.length ca2)] 30)).alloc (Obj.cells #[.slice none 0 0] 25))).frozen? ⟨w.heap.size + 1 + 1, oo, none⟩ = false := (fz_new ((w.alloc (Obj.cells #[(.slice At1 t.atoms.length ct1)] 25)).alloc (Obj.cells #[.int .i64 a.kind, .int .i64 a.k, (.slice Aa1 a.x.monos.length ca1), (.slice Aa2 a.y.monos.length ca2)] 30)) #[.slice none 0 0] 25 (by first | rfl | (simp; done)))
    generalize (((w.alloc (Obj.cells #[(.slice At1 t.atoms.length ct1)] 25)).alloc (Obj.cells #[.int .i64 a.kind, .int .i64 a.k, (.slice Aa1 a.x.monos.length ca1), (.slice Aa2 a.y.monos.length ca2)] 30)).alloc (Obj.cells #[.slice none 0 0] 25)) = w0 at *
    have yt : w.heap.size < w0.heap.size := by omega
    have xt0 : w0.cell? ⟨w.heap.size, 0, none⟩ = some ((.slice At1 t.atoms.length ct1)) := hBt_0 0 _ rfl
    have ft := hFt_0
    have ya : w.heap.size + 1 < w0.heap.size := by omega
    have xa0 := hBa_0 0 _ rfl
    have xa1 := hBa_0 1 _ rfl
    have xa2 := hBa_0 2 _ rfl
    have xa3 := hBa_0 3 _ rfl
    have fa := hFa_0
    have yres : w.heap.size + 1 + 1 < w0.heap.size := by omega
    have xres0 : w0.cell? ⟨w.heap.size + 1 + 1, 0, none⟩ = some (.slice none 0 0) := hBres_0 0 _ rfl
    have fres := hFres_0
    go_wp2_with fail
    refine (find_any t a _ _ _ _ (ht1.ext (Ext.trans he0 Ext.auto)) (ha1.ext (Ext.trans he0 Ext.auto)) (ha2.ext (Ext.trans he0 Ext.auto))).mono ?_
    rintro e w1 ⟨rfl, hy⟩
    rw [HFD.out]
    clear xt0 yt
    clear ft
    clear xa0 xa1 xa2 xa3 ya
    clear fa
    clear xres0 yres
    clear fres
    have hx1 : Ext w0 w1 := Ext.trans (Ext.auto) hy
    have hs1 := hx1.size
    have he1 : Ext w w1 := he0.trans hx1
    have hBt_1 : Bx w1 (w.heap.size) [(.slice At1 t.atoms.length ct1)] := hx1.bx hBt_0 (by omega)
    have hFt_1 : ∀ oo, w1.frozen? ⟨w.heap.size, oo, none⟩ = false := fun oo => (hx1.frozen (by omega)).trans (hFt_0 oo)
    have hBa_1 : Bx w1 (w.heap.size + 1) [.int .i64 a.kind, .int .i64 a.k, (.slice Aa1 a.x.monos.length ca1), (.slice Aa2 a.y.monos.length ca2)] := hx1.bx hBa_0 (by omega)
    have hFa_1 : ∀ oo, w1.frozen? ⟨w.heap.size + 1, oo, none⟩ = false := fun oo => (hx1.frozen (by omega)).trans (hFa_0 oo)
    have hBres_1 : Bx w1 (w.heap.size + 1 + 1) [.slice none 0 0] := hx1.bx hBres_0 (by omega)
    have hFres_1 : ∀ oo, w1.frozen? ⟨w.heap.size + 1 + 1, oo, none⟩ = false := fun oo => (hx1.frozen (by omega)).trans (hFres_0 oo)
    clear hBt_0 hFt_0 hBa_0 hFa_0 hBres_0 hFres_0
    clear hy
    have yt : w.heap.size < w1.heap.size := by omega
    have xt0 : w1.cell? ⟨w.heap.size, 0, none⟩ = some ((.slice At1 t.atoms.length ct1)) := hBt_1 0 _ rfl
    have ft := hFt_1
    have yres : w.heap.size + 1 + 1 < w1.heap.size := by omega
    have xres0 : w1.cell? ⟨w.heap.size + 1 + 1, 0, none⟩ = some (.slice none 0 0) := hBres_1 0 _ rfl
    have fres := hFres_1
    go_wp2
    refine bodyPost_ret (v := .tuple #[.agg #[.slice At1 t.atoms.length ct1], .int .i64 ((k : Int))]) (by simp [results, Try.results27, go_sem, xres0]) rfl ⟨_, by rw [HN.out], by rw [HT.out]; exact hT.keep (fun b o hb => Ext.cell (Ext.hold he1) (hSO b hb)) (fun _ h => .inl h), Ext.hold he1⟩
  have HFD := hide hf
  clear hf
  cases q0 : atomOkB a (t.atoms.length : Int)
  · 
    have HT := hide (show tabPut t a = t by rw [HT0.out, q0]; rfl)
    have HN := hide (show tabPutAt t a = -1 by rw [HN0.out, q0]; rfl)
    go_enter Try.func27, Try.ntmps27
    go_upto_region 1 with fail
    have he0 : Ext w (((w.alloc (Obj.cells #[(.slice At1 t.atoms.length ct1)] 25)).alloc (Obj.cells #[.int .i64 a.kind, .int .i64 a.k, (.slice Aa1 a.x.monos.length ca1), (.slice Aa2 a.y.monos.length ca2)] 30)).alloc (Obj.cells #[.slice none 0 0] 25)) := (Ext.auto)
    have hs0 : w.heap.size + 3 ≤ ((((w.alloc (Obj.cells #[(.slice At1 t.atoms.length ct1)] 25)).alloc (Obj.cells #[.int .i64 a.kind, .int .i64 a.k, (.slice Aa1 a.x.monos.length ca1), (.slice Aa2 a.y.monos.length ca2)] 30)).alloc (Obj.cells #[.slice none 0 0] 25))).heap.size := by simp
    have hq0 := hide (show ((((w.alloc (Obj.cells #[(.slice At1 t.atoms.length ct1)] 25)).alloc (Obj.cells #[.int .i64 a.kind, .int .i64 a.k, (.slice Aa1 a.x.monos.length ca1), (.slice Aa2 a.y.monos.length ca2)] 30)).alloc (Obj.cells #[.slice none 0 0] 25))).heap.size = w.heap.size + 3 by simp)
    have hBt_0 : Bx (((w.alloc (Obj.cells #[(.slice At1 t.atoms.length ct1)] 25)).alloc (Obj.cells #[.int .i64 a.kind, .int .i64 a.k, (.slice Aa1 a.x.monos.length ca1), (.slice Aa2 a.y.monos.length ca2)] 30)).alloc (Obj.cells #[.slice none 0 0] 25)) (w.heap.size) [(.slice At1 t.atoms.length ct1)] := (by have := (Bx.alloc (Bx.alloc (Bx.new w #[(.slice At1 t.atoms.length ct1)] 25) (by simp) #[.int .i64 a.kind, .int .i64 a.k, (.slice Aa1 a.x.monos.length ca1), (.slice Aa2 a.y.monos.length ca2)] 30) (by first | (simp; done) | (simp; omega)) #[.slice none 0 0] 25); simpa using this)
    have hFt_0 : ∀ oo, ((((w.alloc (Obj.cells #[(.slice At1 t.atoms.length ct1)] 25)).alloc (Obj.cells #[.int .i64 a.kind, .int .i64 a.k, (.slice Aa1 a.x.monos.length ca1), (.slice Aa2 a.y.monos.length ca2)] 30)).alloc (Obj.cells #[.slice none 0 0] 25))).frozen? ⟨w.heap.size, oo, none⟩ = false := (fz_alloc (fz_alloc (fz_new w #[(.slice At1 t.atoms.length ct1)] 25 (by first | rfl | (simp; done))) (by first | (simp; done) | (simp; omega)) (Obj.cells #[.int .i64 a.kind, .int .i64 a.k, (.slice Aa1 a.x.monos.length ca1), (.slice Aa2 a.y.monos.length ca2)] 30)) (by first | (simp; done) | (simp; omega)) (Obj.cells #[.slice none 0 0] 25))
    have hBa_0 : Bx (((w.alloc (Obj.cells #[(.slice At1 t.atoms.length ct1)] 25)).alloc (Obj.cells #[.int .i64 a.kind, .int .i64 a.k, (.slice Aa1 a.x.monos.length ca1), (.slice Aa2 a.y.monos.length ca2)] 30)).alloc (Obj.cells #[.slice none 0 0] 25)) (w.heap.size + 1) [.int .i64 a.kind, .int .i64 a.k, (.slice Aa1 a.x.monos.length ca1), (.slice Aa2 a.y.monos.length ca2)] := (by have := (Bx.alloc (Bx.new (w.alloc (Obj.cells #[(.slice At1 t.atoms.length ct1)] 25)) #[.int .i64 a.kind, .int .i64 a.k, (.slice Aa1 a.x.monos.length ca1), (.slice Aa2 a.y.monos.length ca2)] 30) (by simp) #[.slice none 0 0] 25); simpa using this)
    have hFa_0 : ∀ oo, ((((w.alloc (Obj.cells #[(.slice At1 t.atoms.length ct1)] 25)).alloc (Obj.cells #[.int .i64 a.kind, .int .i64 a.k, (.slice Aa1 a.x.monos.length ca1), (.slice Aa2 a.y.monos.length ca2)] 30)).alloc (Obj.cells #[.slice none 0 0] 25))).frozen? ⟨w.heap.size + 1, oo, none⟩ = false := (fz_alloc (fz_new (w.alloc (Obj.cells #[(.slice At1 t.atoms.length ct1)] 25)) #[.int .i64 a.kind, .int .i64 a.k, (.slice Aa1 a.x.monos.length ca1), (.slice Aa2 a.y.monos.length ca2)] 30 (by first | rfl | (simp; done))) (by first | (simp; done) | (simp; omega)) (Obj.cells #[.slice none 0 0] 25))
    have hBres_0 : Bx (((w.alloc (Obj.cells #[(.slice At1 t.atoms.length ct1)] 25)).alloc (Obj.cells #[.int .i64 a.kind, .int .i64 a.k, (.slice Aa1 a.x.monos.length ca1), (.slice Aa2 a.y.monos.length ca2)] 30)).alloc (Obj.cells #[.slice none 0 0] 25)) (w.heap.size + 1 + 1) [.slice none 0 0] := (by have := (Bx.new ((w.alloc (Obj.cells #[(.slice At1 t.atoms.length ct1)] 25)).alloc (Obj.cells #[.int .i64 a.kind, .int .i64 a.k, (.slice Aa1 a.x.monos.length ca1), (.slice Aa2 a.y.monos.length ca2)] 30)) #[.slice none 0 0] 25); simpa using this)
    have hFres_0 : ∀ oo, ((((w.alloc (Obj.cells #[(.slice At1 t.atoms.length ct1)] 25)).alloc (Obj.cells #[.int .i64 a.kind, .int .i64 a.k, (.slice Aa1 a.x.monos.length ca1), (.slice Aa2 a.y.monos.length ca2)] 30)).alloc (Obj.cells #[.slice none 0 0] 25))).frozen? ⟨w.heap.size + 1 + 1, oo, none⟩ = false := (fz_new ((w.alloc (Obj.cells #[(.slice At1 t.atoms.length ct1)] 25)).alloc (Obj.cells #[.int .i64 a.kind, .int .i64 a.k, (.slice Aa1 a.x.monos.length ca1), (.slice Aa2 a.y.monos.length ca2)] 30)) #[.slice none 0 0] 25 (by first | rfl | (simp; done)))
    generalize (((w.alloc (Obj.cells #[(.slice At1 t.atoms.length ct1)] 25)).alloc (Obj.cells #[.int .i64 a.kind, .int .i64 a.k, (.slice Aa1 a.x.monos.length ca1), (.slice Aa2 a.y.monos.length ca2)] 30)).alloc (Obj.cells #[.slice none 0 0] 25)) = w0 at *
    have yt : w.heap.size < w0.heap.size := by omega
    have xt0 : w0.cell? ⟨w.heap.size, 0, none⟩ = some ((.slice At1 t.atoms.length ct1)) := hBt_0 0 _ rfl
    have ft := hFt_0
    have ya : w.heap.size + 1 < w0.heap.size := by omega
    have xa0 := hBa_0 0 _ rfl
    have xa1 := hBa_0 1 _ rfl
    have xa2 := hBa_0 2 _ rfl
    have xa3 := hBa_0 3 _ rfl
    have fa := hFa_0
    have yres : w.heap.size + 1 + 1 < w0.heap.size := by omega
    have xres0 : w0.cell? ⟨w.heap.size + 1 + 1, 0, none⟩ = some (.slice none 0 0) := hBres_0 0 _ rfl
    have fres := hFres_0
    go_wp2_with fail
    refine (find_any t a _ _ _ _ (ht1.ext (Ext.trans he0 Ext.auto)) (ha1.ext (Ext.trans he0 Ext.auto)) (ha2.ext (Ext.trans he0 Ext.auto))).mono ?_
    rintro e w1 ⟨rfl, hy⟩
    rw [HFD.out]
    clear xt0 yt
    clear ft
    clear xa0 xa1 xa2 xa3 ya
    clear fa
    clear xres0 yres
    clear fres
    have hx1 : Ext w0 w1 := Ext.trans (Ext.auto) hy
    have hs1 := hx1.size
    have he1 : Ext w w1 := he0.trans hx1
    have hBt_1 : Bx w1 (w.heap.size) [(.slice At1 t.atoms.length ct1)] := hx1.bx hBt_0 (by omega)
    have hFt_1 : ∀ oo, w1.frozen? ⟨w.heap.size, oo, none⟩ = false := fun oo => (hx1.frozen (by omega)).trans (hFt_0 oo)
    have hBa_1 : Bx w1 (w.heap.size + 1) [.int .i64 a.kind, .int .i64 a.k, (.slice Aa1 a.x.monos.length ca1), (.slice Aa2 a.y.monos.length ca2)] := hx1.bx hBa_0 (by omega)
    have hFa_1 : ∀ oo, w1.frozen? ⟨w.heap.size + 1, oo, none⟩ = false := fun oo => (hx1.frozen (by omega)).trans (hFa_0 oo)
    have hBres_1 : Bx w1 (w.heap.size + 1 + 1) [.slice none 0 0] := hx1.bx hBres_0 (by omega)
    have hFres_1 : ∀ oo, w1.frozen? ⟨w.heap.size + 1 + 1, oo, none⟩ = false := fun oo => (hx1.frozen (by omega)).trans (hFres_0 oo)
    clear hBt_0 hFt_0 hBa_0 hFa_0 hBres_0 hFres_0
    clear hy
    have yt : w.heap.size < w1.heap.size := by omega
    have xt0 : w1.cell? ⟨w.heap.size, 0, none⟩ = some ((.slice At1 t.atoms.length ct1)) := hBt_1 0 _ rfl
    have ft := hFt_1
    have ya : w.heap.size + 1 < w1.heap.size := by omega
    have xa0 := hBa_1 0 _ rfl
    have xa1 := hBa_1 1 _ rfl
    have xa2 := hBa_1 2 _ rfl
    have xa3 := hBa_1 3 _ rfl
    have fa := hFa_1
    have yres : w.heap.size + 1 + 1 < w1.heap.size := by omega
    have xres0 : w1.cell? ⟨w.heap.size + 1 + 1, 0, none⟩ = some (.slice none 0 0) := hBres_1 0 _ rfl
    have fres := hFres_1
    go_wp2_with fail
    refine (implAtom_any a (t.atoms.length : Int) _ _ _ (ha1.ext (Ext.trans he1 Ext.auto)) (ha2.ext (Ext.trans he1 Ext.auto)) hbx hby).mono ?_
    rintro e w2 ⟨rfl, hy⟩
    simp only [q0]
    clear xt0 yt
    clear ft
    clear xa0 xa1 xa2 xa3 ya
    clear fa
    clear xres0 yres
    clear fres
    have hx2 : Ext w1 w2 := Ext.trans (Ext.auto) hy
    have hs2 := hx2.size
    have he2 : Ext w w2 := he1.trans hx2
    have hBt_2 : Bx w2 (w.heap.size) [(.slice At1 t.atoms.length ct1)] := hx2.bx hBt_1 (by omega)
    have hFt_2 : ∀ oo, w2.frozen? ⟨w.heap.size, oo, none⟩ = false := fun oo => (hx2.frozen (by omega)).trans (hFt_1 oo)
    have hBa_2 : Bx w2 (w.heap.size + 1) [.int .i64 a.kind, .int .i64 a.k, (.slice Aa1 a.x.monos.length ca1), (.slice Aa2 a.y.monos.length ca2)] := hx2.bx hBa_1 (by omega)
    have hFa_2 : ∀ oo, w2.frozen? ⟨w.heap.size + 1, oo, none⟩ = false := fun oo => (hx2.frozen (by omega)).trans (hFa_1 oo)
    have hBres_2 : Bx w2 (w.heap.size + 1 + 1) [.slice none 0 0] := hx2.bx hBres_1 (by omega)
    have hFres_2 : ∀ oo, w2.frozen? ⟨w.heap.size + 1 + 1, oo, none⟩ = false := fun oo => (hx2.frozen (by omega)).trans (hFres_1 oo)
    clear hBt_1 hFt_1 hBa_1 hFa_1 hBres_1 hFres_1
    clear hy
    have yt : w.heap.size < w2.heap.size := by omega
    have xt0 : w2.cell? ⟨w.heap.size, 0, none⟩ = some ((.slice At1 t.atoms.length ct1)) := hBt_2 0 _ rfl
    have ft := hFt_2
    have yres : w.heap.size + 1 + 1 < w2.heap.size := by omega
    have xres0 : w2.cell? ⟨w.heap.size + 1 + 1, 0, none⟩ = some (.slice none 0 0) := hBres_2 0 _ rfl
    have fres := hFres_2
    go_wp2
    refine bodyPost_ret (v := .tuple #[.agg #[.slice At1 t.atoms.length ct1], .int .i64 (-1)]) (by simp [results, Try.results27, go_sem, xres0]) rfl ⟨_, by rw [HN.out], by rw [HT.out]; exact hT.keep (fun b o hb => Ext.cell (Ext.hold he2) (hSO b hb)) (fun _ h => .inl h), Ext.hold he2⟩
  have HT1 := hide (show tabPut t a = (if decide (t.atoms.length < 200) = true then ⟨t.atoms ++ [a]⟩ else t) by rw [HT0.out, q0, HFD.out]; rfl)
  have HN1 := hide (show tabPutAt t a = (if t.atoms.length < 200 then (t.atoms.length : Int) else -1) by rw [HN0.out, q0, HFD.out, if_pos rfl, if_pos rfl])
  go_enter Try.func27, Try.ntmps27
  go_upto_region 1 with fail
  have he0 : Ext w (((w.alloc (Obj.cells #[(.slice At1 t.atoms.length ct1)] 25)).alloc (Obj.cells #[.int .i64 a.kind, .int .i64 a.k, (.slice Aa1 a.x.monos.length ca1), (.slice Aa2 a.y.monos.length ca2)] 30)).alloc (Obj.cells #[.slice none 0 0] 25)) := (Ext.auto)
  have hs0 : w.heap.size + 3 ≤ ((((w.alloc (Obj.cells #[(.slice At1 t.atoms.length ct1)] 25)).alloc (Obj.cells #[.int .i64 a.kind, .int .i64 a.k, (.slice Aa1 a.x.monos.length ca1), (.slice Aa2 a.y.monos.length ca2)] 30)).alloc (Obj.cells #[.slice none 0 0] 25))).heap.size := by simp
  have hq0 := hide (show ((((w.alloc (Obj.cells #[(.slice At1 t.atoms.length ct1)] 25)).alloc (Obj.cells #[.int .i64 a.kind, .int .i64 a.k, (.slice Aa1 a.x.monos.length ca1), (.slice Aa2 a.y.monos.length ca2)] 30)).alloc (Obj.cells #[.slice none 0 0] 25))).heap.size = w.heap.size + 3 by simp)
  have hBt_0 : Bx (((w.alloc (Obj.cells #[(.slice At1 t.atoms.length ct1)] 25)).alloc (Obj.cells #[.int .i64 a.kind, .int .i64 a.k, (.slice Aa1 a.x.monos.length ca1), (.slice Aa2 a.y.monos.length ca2)] 30)).alloc (Obj.cells #[.slice none 0 0] 25)) (w.heap.size) [(.slice At1 t.atoms.length ct1)] := (by have := (Bx.alloc (Bx.alloc (Bx.new w #[(.slice At1 t.atoms.length ct1)] 25) (by simp) #[.int .i64 a.kind, .int .i64 a.k, (.slice Aa1 a.x.monos.length ca1), (.slice Aa2 a.y.monos.length ca2)] 30) (by first | (simp; done) | (simp; omega)) #[.slice none 0 0] 25); simpa using this)
  have hFt_0 : ∀ oo, ((((w.alloc (Obj.cells #[(.slice At1 t.atoms.length ct1)] 25)).alloc (Obj.cells #[.int .i64 a.kind, .int .i64 a.k, (.slice Aa1 a.x.monos.length ca1), (.slice Aa2 a.y.monos.length ca2)] 30)).alloc (Obj.cells #[.slice none 0 0] 25))).frozen? ⟨w.heap.size, oo, none⟩ = false := (fz_alloc (fz_alloc (fz_new w #[(.slice At1 t.atoms.length ct1)] 25 (by first | rfl | (simp; done))) (by first | (simp; done) | (simp; omega)) (Obj.cells #[.int .i64 a.kind, .int .i64 a.k, (.slice Aa1 a.x.monos.length ca1), (.slice Aa2 a.y.monos.length ca2)] 30)) (by first | (simp; done) | (simp; omega)) (Obj.cells #[.slice none 0 0] 25))
  have hBa_0 : Bx (((w.alloc (Obj.cells #[(.slice At1 t.atoms.length ct1)] 25)).alloc (Obj.cells #[.int .i64 a.kind, .int .i64 a.k, (.slice Aa1 a.x.monos.length ca1), (.slice Aa2 a.y.monos.length ca2)] 30)).alloc (Obj.cells #[.slice none 0 0] 25)) (w.heap.size + 1) [.int .i64 a.kind, .int .i64 a.k, (.slice Aa1 a.x.monos.length ca1), (.slice Aa2 a.y.monos.length ca2)] := (by have := (Bx.alloc (Bx.new (w.alloc (Obj.cells #[(.slice At1 t.atoms.length ct1)] 25)) #[.int .i64 a.kind, .int .i64 a.k, (.slice Aa1 a.x.monos.length ca1), (.slice Aa2 a.y.monos.length ca2)] 30) (by simp) #[.slice none 0 0] 25); simpa using this)
  have hFa_0 : ∀ oo, ((((w.alloc (Obj.cells #[(.slice At1 t.atoms.length ct1)] 25)).alloc (Obj.cells #[.int .i64 a.kind, .int .i64 a.k, (.slice Aa1 a.x.monos.length ca1), (.slice Aa2 a.y.monos.length ca2)] 30)).alloc (Obj.cells #[.slice none 0 0] 25))).frozen? ⟨w.heap.size + 1, oo, none⟩ = false := (fz_alloc (fz_new (w.alloc (Obj.cells #[(.slice At1 t.atoms.length ct1)] 25)) #[.int .i64 a.kind, .int .i64 a.k, (.slice Aa1 a.x.monos.length ca1), (.slice Aa2 a.y.monos.length ca2)] 30 (by first | rfl | (simp; done))) (by first | (simp; done) | (simp; omega)) (Obj.cells #[.slice none 0 0] 25))
  have hBres_0 : Bx (((w.alloc (Obj.cells #[(.slice At1 t.atoms.length ct1)] 25)).alloc (Obj.cells #[.int .i64 a.kind, .int .i64 a.k, (.slice Aa1 a.x.monos.length ca1), (.slice Aa2 a.y.monos.length ca2)] 30)).alloc (Obj.cells #[.slice none 0 0] 25)) (w.heap.size + 1 + 1) [.slice none 0 0] := (by have := (Bx.new ((w.alloc (Obj.cells #[(.slice At1 t.atoms.length ct1)] 25)).alloc (Obj.cells #[.int .i64 a.kind, .int .i64 a.k, (.slice Aa1 a.x.monos.length ca1), (.slice Aa2 a.y.monos.length ca2)] 30)) #[.slice none 0 0] 25); simpa using this)
  have hFres_0 : ∀ oo, ((((w.alloc (Obj.cells #[(.slice At1 t.atoms.length ct1)] 25)).alloc (Obj.cells #[.int .i64 a.kind, .int .i64 a.k, (.slice Aa1 a.x.monos.length ca1), (.slice Aa2 a.y.monos.length ca2)] 30)).alloc (Obj.cells #[.slice none 0 0] 25))).frozen? ⟨w.heap.size + 1 + 1, oo, none⟩ = false := (fz_new ((w.alloc (Obj.cells #[(.slice At1 t.atoms.length ct1)] 25)).alloc (Obj.cells #[.int .i64 a.kind, .int .i64 a.k, (.slice Aa1 a.x.monos.length ca1), (.slice Aa2 a.y.monos.length ca2)] 30)) #[.slice none 0 0] 25 (by first | rfl | (simp; done)))
  generalize (((w.alloc (Obj.cells #[(.slice At1 t.atoms.length ct1)] 25)).alloc (Obj.cells #[.int .i64 a.kind, .int .i64 a.k, (.slice Aa1 a.x.monos.length ca1), (.slice Aa2 a.y.monos.length ca2)] 30)).alloc (Obj.cells #[.slice none 0 0] 25)) = w0 at *
  have yt : w.heap.size < w0.heap.size := by omega
  have xt0 : w0.cell? ⟨w.heap.size, 0, none⟩ = some ((.slice At1 t.atoms.length ct1)) := hBt_0 0 _ rfl
  have ft := hFt_0
  have ya : w.heap.size + 1 < w0.heap.size := by omega
  have xa0 := hBa_0 0 _ rfl
  have xa1 := hBa_0 1 _ rfl
  have xa2 := hBa_0 2 _ rfl
  have xa3 := hBa_0 3 _ rfl
  have fa := hFa_0
  have yres : w.heap.size + 1 + 1 < w0.heap.size := by omega
  have xres0 : w0.cell? ⟨w.heap.size + 1 + 1, 0, none⟩ = some (.slice none 0 0) := hBres_0 0 _ rfl
  have fres := hFres_0
  go_wp2_with fail
  refine (find_any t a _ _ _ _ (ht1.ext (Ext.trans he0 Ext.auto)) (ha1.ext (Ext.trans he0 Ext.auto)) (ha2.ext (Ext.trans he0 Ext.auto))).mono ?_
  rintro e w1 ⟨rfl, hy⟩
  rw [HFD.out]
  clear xt0 yt
  clear ft
  clear xa0 xa1 xa2 xa3 ya
  clear fa
  clear xres0 yres
  clear fres
  have hx1 : Ext w0 w1 := Ext.trans (Ext.auto) hy
  have hs1 := hx1.size
  have he1 : Ext w w1 := he0.trans hx1
  have hBt_1 : Bx w1 (w.heap.size) [(.slice At1 t.atoms.length ct1)] := hx1.bx hBt_0 (by omega)
  have hFt_1 : ∀ oo, w1.frozen? ⟨w.heap.size, oo, none⟩ = false := fun oo => (hx1.frozen (by omega)).trans (hFt_0 oo)
  have hBa_1 : Bx w1 (w.heap.size + 1) [.int .i64 a.kind, .int .i64 a.k, (.slice Aa1 a.x.monos.length ca1), (.slice Aa2 a.y.monos.length ca2)] := hx1.bx hBa_0 (by omega)
  have hFa_1 : ∀ oo, w1.frozen? ⟨w.heap.size + 1, oo, none⟩ = false := fun oo => (hx1.frozen (by omega)).trans (hFa_0 oo)
  have hBres_1 : Bx w1 (w.heap.size + 1 + 1) [.slice none 0 0] := hx1.bx hBres_0 (by omega)
  have hFres_1 : ∀ oo, w1.frozen? ⟨w.heap.size + 1 + 1, oo, none⟩ = false := fun oo => (hx1.frozen (by omega)).trans (hFres_0 oo)
  clear hBt_0 hFt_0 hBa_0 hFa_0 hBres_0 hFres_0
  clear hy
  have yt : w.heap.size < w1.heap.size := by omega
  have xt0 : w1.cell? ⟨w.heap.size, 0, none⟩ = some ((.slice At1 t.atoms.length ct1)) := hBt_1 0 _ rfl
  have ft := hFt_1
  have ya : w.heap.size + 1 < w1.heap.size := by omega
  have xa0 := hBa_1 0 _ rfl
  have xa1 := hBa_1 1 _ rfl
  have xa2 := hBa_1 2 _ rfl
  have xa3 := hBa_1 3 _ rfl
  have fa := hFa_1
  have yres : w.heap.size + 1 + 1 < w1.heap.size := by omega
  have xres0 : w1.cell? ⟨w.heap.size + 1 + 1, 0, none⟩ = some (.slice none 0 0) := hBres_1 0 _ rfl
  have fres := hFres_1
  go_wp2_with fail
  refine (implAtom_any a (t.atoms.length : Int) _ _ _ (ha1.ext (Ext.trans he1 Ext.auto)) (ha2.ext (Ext.trans he1 Ext.auto)) hbx hby).mono ?_
  rintro e w2 ⟨rfl, hy⟩
  simp only [q0]
  clear xt0 yt
  clear ft
  clear xa0 xa1 xa2 xa3 ya
  clear fa
  clear xres0 yres
  clear fres
  have hx2 : Ext w1 w2 := Ext.trans (Ext.auto) hy
  have hs2 := hx2.size
  have he2 : Ext w w2 := he1.trans hx2
  have hBt_2 : Bx w2 (w.heap.size) [(.slice At1 t.atoms.length ct1)] := hx2.bx hBt_1 (by omega)
  have hFt_2 : ∀ oo, w2.frozen? ⟨w.heap.size, oo, none⟩ = false := fun oo => (hx2.frozen (by omega)).trans (hFt_1 oo)
  have hBa_2 : Bx w2 (w.heap.size + 1) [.int .i64 a.kind, .int .i64 a.k, (.slice Aa1 a.x.monos.length ca1), (.slice Aa2 a.y.monos.length ca2)] := hx2.bx hBa_1 (by omega)
  have hFa_2 : ∀ oo, w2.frozen? ⟨w.heap.size + 1, oo, none⟩ = false := fun oo => (hx2.frozen (by omega)).trans (hFa_1 oo)
  have hBres_2 : Bx w2 (w.heap.size + 1 + 1) [.slice none 0 0] := hx2.bx hBres_1 (by omega)
  have hFres_2 : ∀ oo, w2.frozen? ⟨w.heap.size + 1 + 1, oo, none⟩ = false := fun oo => (hx2.frozen (by omega)).trans (hFres_1 oo)
  clear hBt_1 hFt_1 hBa_1 hFa_1 hBres_1 hFres_1
  clear hy
  clear q0
  cases ql : ((t.atoms.length : Int) == 200)
  rotate_left
  · 
    have hl_ : t.atoms.length = 200 := by simp at ql; omega
    have HT := hide (show tabPut t a = t by rw [HT1.out, if_neg]; simp; omega)
    have HN := hide (show tabPutAt t a = -1 by rw [HN1.out, if_neg (by omega)])
    clear hl_
    have yt : w.heap.size < w2.heap.size := by omega
    have xt0 : w2.cell? ⟨w.heap.size, 0, none⟩ = some ((.slice At1 t.atoms.length ct1)) := hBt_2 0 _ rfl
    have ft := hFt_2
    have yres : w.heap.size + 1 + 1 < w2.heap.size := by omega
    have xres0 : w2.cell? ⟨w.heap.size + 1 + 1, 0, none⟩ = some (.slice none 0 0) := hBres_2 0 _ rfl
    have fres := hFres_2
    go_wp2
    refine bodyPost_ret (v := .tuple #[.agg #[.slice At1 t.atoms.length ct1], .int .i64 (-1)]) (by simp [results, Try.results27, go_sem, xres0]) rfl ⟨_, by rw [HN.out], by rw [HT.out]; exact hT.keep (fun b o hb => Ext.cell (Ext.hold he2) (hSO b hb)) (fun _ h => .inl h), Ext.hold he2⟩
  have hl_ : t.atoms.length < 200 := by simp at ql; omega
  have HT := hide (show tabPut t a = ⟨t.atoms ++ [a]⟩ by rw [HT1.out, if_pos]; simp; omega)
  have HN := hide (show tabPutAt t a = (t.atoms.length : Int) by rw [HN1.out, if_pos hl_])
  have yt : w.heap.size < w2.heap.size := by omega
  have xt0 : w2.cell? ⟨w.heap.size, 0, none⟩ = some ((.slice At1 t.atoms.length ct1)) := hBt_2 0 _ rfl
  have ft := hFt_2
  have ya : w.heap.size + 1 < w2.heap.size := by omega
  have xa0 := hBa_2 0 _ rfl
  have xa1 := hBa_2 1 _ rfl
  have xa2 := hBa_2 2 _ rfl
  have xa3 := hBa_2 3 _ rfl
  have fa := hFa_2
  go_upto_region 6 with fail
  clear ql
  obtain ⟨L9, hL9⟩ : ∃ L9, L9 = t.atoms ++ [a] := ⟨_, rfl⟩
  have HL9 := hide hL9
  clear hL9
  go_cut [7] (fun v7 wx => ∃ (q g : Nat) (A9 : Option Addr) (c9 : Nat), v7 = .pointer (some ⟨q, 0, none⟩) ∧ Ext w2 wx ∧ w2.heap.size ≤ q ∧ q < wx.heap.size ∧ Bx wx q [.slice A9 L9.length c9] ∧ (∀ oo, wx.frozen? ⟨q, oo, none⟩ = false) ∧ w2.heap.size ≤ g ∧ g < wx.heap.size ∧ Sl wx (fun b => S b ∨ b = g) (.slice A9 L9.length c9) L9)
  · 
    have hS : ∀ w', Ext w2 w' → ∀ bb oo, bb < w2.heap.size → w'.cell? ⟨bb, oo, none⟩ = w2.cell? ⟨bb, oo, none⟩ := fun w' hx bb oo hb => hx.cell hb
    refine wp_region_plan2 (fun w' => Ext w2 w') 8 (.float 0 (.float 1 (.float 3 (.float 2 (.alt 4 (.alt 5 (.float 6 (.chain 7 (.tail 8))) (.alt 7 (.chain 5 (.float 6 (.tail 8))) .stop)) (.alt 7 (.chain 4 (.chain 5 (.float 6 (.tail 8)))) .stop)))))) (by kernel_rfl) (by kernel_rfl) (Ext.refl _).drew ?_
    (refine Plan2.float_step (v := ?_) rfl (by rfl) (fun _ _ _ h => h) (fun w' hSw => ?_) ?_; rotate_left; · (go_simp; try with_reducible rfl)); (try simp only [Act.put, List.setIfInBounds_toArray, List.set_cons_zero, List.set_cons_succ])
    (refine Plan2.float_step (v := ?_) rfl (by rfl) (fun _ _ _ h => h) (fun w' hSw => ?_) ?_; rotate_left; · (go_simp; try with_reducible rfl)); (try simp only [Act.put, List.setIfInBounds_toArray, List.set_cons_zero, List.set_cons_succ])
    (refine Plan2.float_step (v := ?_) rfl (by rfl) (fun _ _ _ h => h) (fun w' hSw => ?_) ?_; rotate_left; · (go_simp; try with_reducible rfl)); (try simp only [Act.put, List.setIfInBounds_toArray, List.set_cons_zero, List.set_cons_succ])
    (refine Plan2.call_step rfl (by rfl) (fun _ _ _ h => h) (fun w' => by go_simp; try rfl) (fun w' hSw => clip_any _ _ _ hlt1 (by unfold maxLen; omega) _) ?_); (try simp only [Act.put, List.setIfInBounds_toArray, List.set_cons_zero, List.set_cons_succ])
    refine Plan2.alt_step ?_ (Plan2.alt_step ?_ True.intro)
    · 
      refine Plan2.chain_step rfl (fun K hK => ?_)
      go_simp
      refine hK.out _ _ (Ext.trans (Ext.refl _) (show Ext w2 (w2.alloc (.cells #[.int .i64 a.kind, .int .i64 a.k, .slice Aa1 a.x.monos.length ca1, .slice Aa2 a.y.monos.length ca2] 30)).drew from Ext.auto)) ?_
      clear hK
      (try simp only [Act.put, List.setIfInBounds_toArray, List.set_cons_zero, List.set_cons_succ])
      have hyA : Ext w2 (w2.alloc (.cells #[.int .i64 a.kind, .int .i64 a.k, .slice Aa1 a.x.monos.length ca1, .slice Aa2 a.y.monos.length ca2] 30)).drew := Ext.auto
      have hsA : w2.heap.size < ((w2.alloc (.cells #[.int .i64 a.kind, .int .i64 a.k, .slice Aa1 a.x.monos.length ca1, .slice Aa2 a.y.monos.length ca2] 30)).drew).heap.size := by simp
      have hBA : Bx ((w2.alloc (.cells #[.int .i64 a.kind, .int .i64 a.k, .slice Aa1 a.x.monos.length ca1, .slice Aa2 a.y.monos.length ca2] 30)).drew) w2.heap.size [.int .i64 a.kind, .int .i64 a.k, .slice Aa1 a.x.monos.length ca1, .slice Aa2 a.y.monos.length ca2] := Bx.new w2 #[.int .i64 a.kind, .int .i64 a.k, .slice Aa1 a.x.monos.length ca1, .slice Aa2 a.y.monos.length ca2] 30
      have hFA : ∀ oo, ((w2.alloc (.cells #[.int .i64 a.kind, .int .i64 a.k, .slice Aa1 a.x.monos.length ca1, .slice Aa2 a.y.monos.length ca2] 30)).drew).frozen? ⟨w2.heap.size, oo, none⟩ = false := fz_new w2 #[.int .i64 a.kind, .int .i64 a.k, .slice Aa1 a.x.monos.length ca1, .slice Aa2 a.y.monos.length ca2] 30 rfl
      generalize (w2.alloc (.cells #[.int .i64 a.kind, .int .i64 a.k, .slice Aa1 a.x.monos.length ca1, .slice Aa2 a.y.monos.length ca2] 30)).drew = w3 at *
      have hx3 : Ext w2 w3 := Ext.trans (Ext.auto) hyA
      have hs3 := hx3.size
      have he3 : Ext w w3 := he2.trans hx3
      have hBc_3 := hBA
      have hFc_3 := hFA
      clear hBA hFA hyA
      refine Plan2.alt_step ?_ (Plan2.alt_step ?_ True.intro)
      · 
        refine Plan2.chain_step rfl (fun K hK => ?_)
        refine wp_append_full _ _ 23 rfl i0a _ 64 Try.underlying23 HIa.out HZ0a.out HZ1a.out HZ2a.out rfl (by decide) (fun b hb => Nat.lt_of_lt_of_le (hSO b hb) (by omega)) ((hT.keep (S' := S) (fun b o hb => he3.cell (hSO b hb)) (fun _ h => h)).clip) rfl a _ _ _ rfl hBc_3.src ⟨_, _, rfl, hka, hX.keep (fun b o hb => he3.cell (hSO b hb)) (fun _ h => h), hY.keep (fun b o hb => he3.cell (hSO b hb)) (fun _ h => h)⟩ (by repeat (first | (exact fun _ h => absurd h (List.not_mem_nil)) | (refine List.forall_mem_cons.2 ⟨rfl, ?_⟩))) (by unfold maxLen; omega) (by omega) ?_
        intro v9 w4 hS9 hy hg9
        rw [← HL9.out] at hS9
        obtain ⟨A9, c9, rfl, -, -⟩ := hS9.form
        refine hK.out _ _ (Ext.trans hx3 hy) ?_
        clear hK
        (try simp only [Act.put, List.setIfInBounds_toArray, List.set_cons_zero, List.set_cons_succ])
        have hx4 : Ext w3 w4 := Ext.trans (Ext.auto) hy
        have hs4 := hx4.size
        have he4 : Ext w w4 := he3.trans hx4
        have hBc_4 : Bx w4 (w2.heap.size) [.int .i64 a.kind, .int .i64 a.k, .slice Aa1 a.x.monos.length ca1, .slice Aa2 a.y.monos.length ca2] := hx4.bx hBc_3 (by omega)
        have hFc_4 : ∀ oo, w4.frozen? ⟨w2.heap.size, oo, none⟩ = false := fun oo => (hx4.frozen (by omega)).trans (hFc_3 oo)
        clear hBc_3 hFc_3
        clear hy
        have hold9 : ∀ b, S b → b < w.heap.size := hSO
        (refine Plan2.float_step (v := ?_) rfl (by rfl) (fun _ _ _ h => h) (fun w' hSw => ?_) ?_; rotate_left; · (go_simp; try with_reducible rfl)); (try simp only [Act.put, List.setIfInBounds_toArray, List.set_cons_zero, List.set_cons_succ])
        refine Plan2.chain_step rfl (fun K hK => ?_)
        go_simp
        refine hK.out _ _ (Ext.trans (Ext.trans hx3 hx4) (show Ext w4 (w4.alloc (.cells #[.slice none 0 0] 25)) from Ext.auto)) ?_
        clear hK
        (try simp only [Act.put, List.setIfInBounds_toArray, List.set_cons_zero, List.set_cons_succ])
        have hyA : Ext w4 (w4.alloc (.cells #[.slice none 0 0] 25)) := Ext.auto
        have hsA : w4.heap.size < ((w4.alloc (.cells #[.slice none 0 0] 25))).heap.size := by simp
        have hBA : Bx ((w4.alloc (.cells #[.slice none 0 0] 25))) w4.heap.size [.slice none 0 0] := Bx.new w4 #[.slice none 0 0] 25
        have hFA : ∀ oo, ((w4.alloc (.cells #[.slice none 0 0] 25))).frozen? ⟨w4.heap.size, oo, none⟩ = false := fz_new w4 #[.slice none 0 0] 25 rfl
        generalize (w4.alloc (.cells #[.slice none 0 0] 25)) = w5 at *
        have hx5 : Ext w4 w5 := Ext.trans (Ext.auto) hyA
        have hs5 := hx5.size
        have he5 : Ext w w5 := he4.trans hx5
        have hBc_5 : Bx w5 (w2.heap.size) [.int .i64 a.kind, .int .i64 a.k, .slice Aa1 a.x.monos.length ca1, .slice Aa2 a.y.monos.length ca2] := hx5.bx hBc_4 (by omega)
        have hFc_5 : ∀ oo, w5.frozen? ⟨w2.heap.size, oo, none⟩ = false := fun oo => (hx5.frozen (by omega)).trans (hFc_4 oo)
        clear hBc_4 hFc_4
        have hBq_5 := hBA
        have hFq_5 := hFA
        clear hBA hFA hyA
        replace hS9 : Sl w5 (fun b => S b ∨ b = w3.heap.size) (.slice A9 L9.length c9) L9 := hS9.keep (fun b o hb => hx5.cell (by rcases hb with hb | hb <;> first | omega | (have := hold9 b hb; omega))) (fun _ h => h)
        have yq : w4.heap.size < w5.heap.size := by omega
        have xq0 : w5.cell? ⟨w4.heap.size, 0, none⟩ = some (.slice none 0 0) := hBq_5 0 _ rfl
        have fq := hFq_5
        refine Plan2.tail_step ?_
        simp only [List.drop_succ_cons, List.drop_zero]
        have hcl : Ext w2 w5 := (Ext.trans (Ext.trans hx3 hx4) hx5)
        clear hS
        go_wp2_with fail
        go_meet
        exact ⟨w4.heap.size, w3.heap.size, A9, c9, rfl, Ext.hold hcl, by omega, by first | omega | (simp; omega), (by have := Bx.put hBq_5 (j := 0) (by simp) (.slice A9 L9.length c9); simpa using this), fz_hold hFq_5, by omega, by first | omega | (simp; omega), hS9.keep (fun b o hb => World.cell?_setCell_other _ _ _ _ (by intro e9; injection e9 with e9; rcases hb with hb | hb <;> first | omega | (have := hold9 b hb; omega))) (fun _ h => h)⟩
      · 
        refine Plan2.chain_step rfl (fun K hK => ?_)
        go_simp
        refine hK.out _ _ (Ext.trans hx3 (show Ext w3 (w3.alloc (.cells #[.slice none 0 0] 25)) from Ext.auto)) ?_
        clear hK
        (try simp only [Act.put, List.setIfInBounds_toArray, List.set_cons_zero, List.set_cons_succ])
        have hyA : Ext w3 (w3.alloc (.cells #[.slice none 0 0] 25)) := Ext.auto
        have hsA : w3.heap.size < ((w3.alloc (.cells #[.slice none 0 0] 25))).heap.size := by simp
        have hBA : Bx ((w3.alloc (.cells #[.slice none 0 0] 25))) w3.heap.size [.slice none 0 0] := Bx.new w3 #[.slice none 0 0] 25
        have hFA : ∀ oo, ((w3.alloc (.cells #[.slice none 0 0] 25))).frozen? ⟨w3.heap.size, oo, none⟩ = false := fz_new w3 #[.slice none 0 0] 25 rfl
        generalize (w3.alloc (.cells #[.slice none 0 0] 25)) = w4 at *
        have hx4 : Ext w3 w4 := Ext.trans (Ext.auto) hyA
        have hs4 := hx4.size
        have he4 : Ext w w4 := he3.trans hx4
        have hBc_4 : Bx w4 (w2.heap.size) [.int .i64 a.kind, .int .i64 a.k, .slice Aa1 a.x.monos.length ca1, .slice Aa2 a.y.monos.length ca2] := hx4.bx hBc_3 (by omega)
        have hFc_4 : ∀ oo, w4.frozen? ⟨w2.heap.size, oo, none⟩ = false := fun oo => (hx4.frozen (by omega)).trans (hFc_3 oo)
        clear hBc_3 hFc_3
        have hBq_4 := hBA
        have hFq_4 := hFA
        clear hBA hFA hyA
        refine Plan2.chain_step rfl (fun K hK => ?_)
        refine wp_append_full _ _ 23 rfl i0a _ 64 Try.underlying23 HIa.out HZ0a.out HZ1a.out HZ2a.out rfl (by decide) (fun b hb => Nat.lt_of_lt_of_le (hSO b hb) (by omega)) ((hT.keep (S' := S) (fun b o hb => he4.cell (hSO b hb)) (fun _ h => h)).clip) rfl a _ _ _ rfl hBc_4.src ⟨_, _, rfl, hka, hX.keep (fun b o hb => he4.cell (hSO b hb)) (fun _ h => h), hY.keep (fun b o hb => he4.cell (hSO b hb)) (fun _ h => h)⟩ (by repeat (first | (exact fun _ h => absurd h (List.not_mem_nil)) | (refine List.forall_mem_cons.2 ⟨rfl, ?_⟩))) (by unfold maxLen; omega) (by omega) ?_
        intro v9 w5 hS9 hy hg9
        rw [← HL9.out] at hS9
        obtain ⟨A9, c9, rfl, -, -⟩ := hS9.form
        refine hK.out _ _ (Ext.trans (Ext.trans hx3 hx4) hy) ?_
        clear hK
        (try simp only [Act.put, List.setIfInBounds_toArray, List.set_cons_zero, List.set_cons_succ])
        have hx5 : Ext w4 w5 := Ext.trans (Ext.auto) hy
        have hs5 := hx5.size
        have he5 : Ext w w5 := he4.trans hx5
        have hBc_5 : Bx w5 (w2.heap.size) [.int .i64 a.kind, .int .i64 a.k, .slice Aa1 a.x.monos.length ca1, .slice Aa2 a.y.monos.length ca2] := hx5.bx hBc_4 (by omega)
        have hFc_5 : ∀ oo, w5.frozen? ⟨w2.heap.size, oo, none⟩ = false := fun oo => (hx5.frozen (by omega)).trans (hFc_4 oo)
        have hBq_5 : Bx w5 (w3.heap.size) [.slice none 0 0] := hx5.bx hBq_4 (by omega)
        have hFq_5 : ∀ oo, w5.frozen? ⟨w3.heap.size, oo, none⟩ = false := fun oo => (hx5.frozen (by omega)).trans (hFq_4 oo)
        clear hBc_4 hFc_4 hBq_4 hFq_4
        clear hy
        have hold9 : ∀ b, S b → b < w.heap.size := hSO
        (refine Plan2.float_step (v := ?_) rfl (by rfl) (fun _ _ _ h => h) (fun w' hSw => ?_) ?_; rotate_left; · (go_simp; try with_reducible rfl)); (try simp only [Act.put, List.setIfInBounds_toArray, List.set_cons_zero, List.set_cons_succ])
        have yq : w3.heap.size < w5.heap.size := by omega
        have xq0 : w5.cell? ⟨w3.heap.size, 0, none⟩ = some (.slice none 0 0) := hBq_5 0 _ rfl
        have fq := hFq_5
        refine Plan2.tail_step ?_
        simp only [List.drop_succ_cons, List.drop_zero]
        have hcl : Ext w2 w5 := (Ext.trans (Ext.trans hx3 hx4) hx5)
        clear hS
        go_wp2_with fail
        go_meet
        exact ⟨w3.heap.size, w4.heap.size, A9, c9, rfl, Ext.hold hcl, by omega, by first | omega | (simp; omega), (by have := Bx.put hBq_5 (j := 0) (by simp) (.slice A9 L9.length c9); simpa using this), fz_hold hFq_5, by omega, by first | omega | (simp; omega), hS9.keep (fun b o hb => World.cell?_setCell_other _ _ _ _ (by intro e9; injection e9 with e9; rcases hb with hb | hb <;> first | omega | (have := hold9 b hb; omega))) (fun _ h => h)⟩
    · 
      refine Plan2.chain_step rfl (fun K hK => ?_)
      go_simp
      refine hK.out _ _ (Ext.trans (Ext.refl _) (show Ext w2 (w2.alloc (.cells #[.slice none 0 0] 25)).drew from Ext.auto)) ?_
      clear hK
      (try simp only [Act.put, List.setIfInBounds_toArray, List.set_cons_zero, List.set_cons_succ])
      have hyA : Ext w2 (w2.alloc (.cells #[.slice none 0 0] 25)).drew := Ext.auto
      have hsA : w2.heap.size < ((w2.alloc (.cells #[.slice none 0 0] 25)).drew).heap.size := by simp
      have hBA : Bx ((w2.alloc (.cells #[.slice none 0 0] 25)).drew) w2.heap.size [.slice none 0 0] := Bx.new w2 #[.slice none 0 0] 25
      have hFA : ∀ oo, ((w2.alloc (.cells #[.slice none 0 0] 25)).drew).frozen? ⟨w2.heap.size, oo, none⟩ = false := fz_new w2 #[.slice none 0 0] 25 rfl
      generalize (w2.alloc (.cells #[.slice none 0 0] 25)).drew = w3 at *
      have hx3 : Ext w2 w3 := Ext.trans (Ext.auto) hyA
      have hs3 := hx3.size
      have he3 : Ext w w3 := he2.trans hx3
      have hBq_3 := hBA
      have hFq_3 := hFA
      clear hBA hFA hyA
      refine Plan2.chain_step rfl (fun K hK => ?_)
      go_simp
      refine hK.out _ _ (Ext.trans hx3 (show Ext w3 (w3.alloc (.cells #[.int .i64 a.kind, .int .i64 a.k, .slice Aa1 a.x.monos.length ca1, .slice Aa2 a.y.monos.length ca2] 30)) from Ext.auto)) ?_
      clear hK
      (try simp only [Act.put, List.setIfInBounds_toArray, List.set_cons_zero, List.set_cons_succ])
      have hyA : Ext w3 (w3.alloc (.cells #[.int .i64 a.kind, .int .i64 a.k, .slice Aa1 a.x.monos.length ca1, .slice Aa2 a.y.monos.length ca2] 30)) := Ext.auto
      have hsA : w3.heap.size < ((w3.alloc (.cells #[.int .i64 a.kind, .int .i64 a.k, .slice Aa1 a.x.monos.length ca1, .slice Aa2 a.y.monos.length ca2] 30))).heap.size := by simp
      have hBA : Bx ((w3.alloc (.cells #[.int .i64 a.kind, .int .i64 a.k, .slice Aa1 a.x.monos.length ca1, .slice Aa2 a.y.monos.length ca2] 30))) w3.heap.size [.int .i64 a.kind, .int .i64 a.k, .slice Aa1 a.x.monos.length ca1, .slice Aa2 a.y.monos.length ca2] := Bx.new w3 #[.int .i64 a.kind, .int .i64 a.k, .slice Aa1 a.x.monos.length ca1, .slice Aa2 a.y.monos.length ca2] 30
      have hFA : ∀ oo, ((w3.alloc (.cells #[.int .i64 a.kind, .int .i64 a.k, .slice Aa1 a.x.monos.length ca1, .slice Aa2 a.y.monos.length ca2] 30))).frozen? ⟨w3.heap.size, oo, none⟩ = false := fz_new w3 #[.int .i64 a.kind, .int .i64 a.k, .slice Aa1 a.x.monos.length ca1, .slice Aa2 a.y.monos.length ca2] 30 rfl
      generalize (w3.alloc (.cells #[.int .i64 a.kind, .int .i64 a.k, .slice Aa1 a.x.monos.length ca1, .slice Aa2 a.y.monos.length ca2] 30)) = w4 at *
      have hx4 : Ext w3 w4 := Ext.trans (Ext.auto) hyA
      have hs4 := hx4.size
      have he4 : Ext w w4 := he3.trans hx4
      have hBq_4 : Bx w4 (w2.heap.size) [.slice none 0 0] := hx4.bx hBq_3 (by omega)
      have hFq_4 : ∀ oo, w4.frozen? ⟨w2.heap.size, oo, none⟩ = false := fun oo => (hx4.frozen (by omega)).trans (hFq_3 oo)
      clear hBq_3 hFq_3
      have hBc_4 := hBA
      have hFc_4 := hFA
      clear hBA hFA hyA
      refine Plan2.chain_step rfl (fun K hK => ?_)
      refine wp_append_full _ _ 23 rfl i0a _ 64 Try.underlying23 HIa.out HZ0a.out HZ1a.out HZ2a.out rfl (by decide) (fun b hb => Nat.lt_of_lt_of_le (hSO b hb) (by omega)) ((hT.keep (S' := S) (fun b o hb => he4.cell (hSO b hb)) (fun _ h => h)).clip) rfl a _ _ _ rfl hBc_4.src ⟨_, _, rfl, hka, hX.keep (fun b o hb => he4.cell (hSO b hb)) (fun _ h => h), hY.keep (fun b o hb => he4.cell (hSO b hb)) (fun _ h => h)⟩ (by repeat (first | (exact fun _ h => absurd h (List.not_mem_nil)) | (refine List.forall_mem_cons.2 ⟨rfl, ?_⟩))) (by unfold maxLen; omega) (by omega) ?_
      intro v9 w5 hS9 hy hg9
      rw [← HL9.out] at hS9
      obtain ⟨A9, c9, rfl, -, -⟩ := hS9.form
      refine hK.out _ _ (Ext.trans (Ext.trans hx3 hx4) hy) ?_
      clear hK
      (try simp only [Act.put, List.setIfInBounds_toArray, List.set_cons_zero, List.set_cons_succ])
      have hx5 : Ext w4 w5 := Ext.trans (Ext.auto) hy
      have hs5 := hx5.size
      have he5 : Ext w w5 := he4.trans hx5
      have hBq_5 : Bx w5 (w2.heap.size) [.slice none 0 0] := hx5.bx hBq_4 (by omega)
      have hFq_5 : ∀ oo, w5.frozen? ⟨w2.heap.size, oo, none⟩ = false := fun oo => (hx5.frozen (by omega)).trans (hFq_4 oo)
      have hBc_5 : Bx w5 (w3.heap.size) [.int .i64 a.kind, .int .i64 a.k, .slice Aa1 a.x.monos.length ca1, .slice Aa2 a.y.monos.length ca2] := hx5.bx hBc_4 (by omega)
      have hFc_5 : ∀ oo, w5.frozen? ⟨w3.heap.size, oo, none⟩ = false := fun oo => (hx5.frozen (by omega)).trans (hFc_4 oo)
      clear hBq_4 hFq_4 hBc_4 hFc_4
      clear hy
      have hold9 : ∀ b, S b → b < w.heap.size := hSO
      (refine Plan2.float_step (v := ?_) rfl (by rfl) (fun _ _ _ h => h) (fun w' hSw => ?_) ?_; rotate_left; · (go_simp; try with_reducible rfl)); (try simp only [Act.put, List.setIfInBounds_toArray, List.set_cons_zero, List.set_cons_succ])
      have yq : w2.heap.size < w5.heap.size := by omega
      have xq0 : w5.cell? ⟨w2.heap.size, 0, none⟩ = some (.slice none 0 0) := hBq_5 0 _ rfl
      have fq := hFq_5
      refine Plan2.tail_step ?_
      simp only [List.drop_succ_cons, List.drop_zero]
      have hcl : Ext w2 w5 := (Ext.trans (Ext.trans hx3 hx4) hx5)
      clear hS
      go_wp2_with fail
      go_meet
      exact ⟨w2.heap.size, w4.heap.size, A9, c9, rfl, Ext.hold hcl, by omega, by first | omega | (simp; omega), (by have := Bx.put hBq_5 (j := 0) (by simp) (.slice A9 L9.length c9); simpa using this), fz_hold hFq_5, by omega, by first | omega | (simp; omega), hS9.keep (fun b o hb => World.cell?_setCell_other _ _ _ _ (by intro e9; injection e9 with e9; rcases hb with hb | hb <;> first | omega | (have := hold9 b hb; omega))) (fun _ h => h)⟩
  obtain ⟨q, g, A9, c9, rfl, hy, hq0_, hq1_, hBq_, hFq_, hg0_, hg1_, hS9⟩ := hcut
  obtain ⟨w3, hwc⟩ : ∃ w3 : World, w3 = wc := ⟨_, rfl⟩
  subst hwc
  clear xt0 yt
  clear ft
  clear xa0 xa1 xa2 xa3 ya
  clear fa
  have hx3 : Ext w2 w3 := Ext.trans (Ext.auto) hy
  have hs3 := hx3.size
  have he3 : Ext w w3 := he2.trans hx3
  have hBt_3 : Bx w3 (w.heap.size) [(.slice At1 t.atoms.length ct1)] := hx3.bx hBt_2 (by omega)
  have hFt_3 : ∀ oo, w3.frozen? ⟨w.heap.size, oo, none⟩ = false := fun oo => (hx3.frozen (by omega)).trans (hFt_2 oo)
  have hBa_3 : Bx w3 (w.heap.size + 1) [.int .i64 a.kind, .int .i64 a.k, (.slice Aa1 a.x.monos.length ca1), (.slice Aa2 a.y.monos.length ca2)] := hx3.bx hBa_2 (by omega)
  have hFa_3 : ∀ oo, w3.frozen? ⟨w.heap.size + 1, oo, none⟩ = false := fun oo => (hx3.frozen (by omega)).trans (hFa_2 oo)
  have hBres_3 : Bx w3 (w.heap.size + 1 + 1) [.slice none 0 0] := hx3.bx hBres_2 (by omega)
  have hFres_3 : ∀ oo, w3.frozen? ⟨w.heap.size + 1 + 1, oo, none⟩ = false := fun oo => (hx3.frozen (by omega)).trans (hFres_2 oo)
  clear hBt_2 hFt_2 hBa_2 hFa_2 hBres_2 hFres_2
  clear hy
  have hBx_3 := hBq_
  have hFx_3 := hFq_
  clear hBq_ hFq_
  have yt : w.heap.size < w3.heap.size := by omega
  have xt0 : w3.cell? ⟨w.heap.size, 0, none⟩ = some ((.slice At1 t.atoms.length ct1)) := hBt_3 0 _ rfl
  have yx : q < w3.heap.size := by omega
  have xx0 : w3.cell? ⟨q, 0, none⟩ = some (.slice A9 L9.length c9) := hBx_3 0 _ rfl
  have yres : w.heap.size + 1 + 1 < w3.heap.size := by omega
  have xres0 : w3.cell? ⟨w.heap.size + 1 + 1, 0, none⟩ = some (.slice none 0 0) := hBres_3 0 _ rfl
  have fres := hFres_3
  go_upto_region 7 with fail
  have hSt : ∀ w', Far (w.heap.size + 1 + 1) w3 w' → ∀ oo, w'.cell? ⟨w.heap.size, oo, none⟩ = w3.cell? ⟨w.heap.size, oo, none⟩ := fun w' hx oo => hx.2 _ oo (by omega) yt
  have hSx : ∀ w', Far (w.heap.size + 1 + 1) w3 w' → ∀ oo, w'.cell? ⟨q, oo, none⟩ = w3.cell? ⟨q, oo, none⟩ := fun w' hx oo => hx.2 _ oo (by omega) yx
  refine wp_region_plan (fun w' => Far (w.heap.size + 1 + 1) w3 w') 5 (.float 0 (.float 1 (.float 2 (.float 3 (.chain 4 (.tail 5)))))) (by kernel_rfl) (by kernel_rfl) (Far.drew _ _) ?_
  iterate 4 ((refine Plan.float_step (v := ?_) rfl (by rfl) (fun _ _ _ h => h) (fun w' hSw => ?_) ?_; rotate_left; · (go_simp; try with_reducible rfl)); (try simp only [Act.put, List.setIfInBounds_toArray, List.set_cons_zero, List.set_cons_succ]))
  refine Plan.chain_step rfl (fun K hK => ?_)
  go_simp
  refine hK.out _ _ (Far.set (Far.drew _ _) _ _) ?_
  clear hK
  (try simp only [Act.put, List.setIfInBounds_toArray, List.set_cons_zero, List.set_cons_succ])
  refine Plan.tail_step ?_
  simp only [List.drop_succ_cons, List.drop_zero]
  clear hSt hSx
  go_wp2
  refine bodyPost_ret (v := .tuple #[.agg #[.slice A9 L9.length c9], .int .i64 (t.atoms.length : Int)]) (by simp [results, Try.results27, go_sem, xres0]) rfl ⟨_, by rw [HN.out], by rw [HT.out, show (TabTab.mk (t.atoms ++ [a])).atoms = L9 from HL9.out.symm]; exact hS9.keep (fun b o hb => show (w3.setCell ⟨w.heap.size + 1 + 1, 0, none⟩ (.slice A9 L9.length c9)).cell? ⟨b, o, none⟩ = _ from World.cell?_setCell_other _ _ _ _ (by intro e9; injection e9 with e9; rcases hb with hb | hb <;> first | omega | (have : b < w.heap.size := hSO b hb; omega))) (fun b hb => by
      rcases hb with hb | hb
      · exact .inl hb
      · exact .inr ⟨by omega, by simp; omega⟩), Ext.hold he3⟩

end Go.Proofs.Ytmbclopkopfngaa
