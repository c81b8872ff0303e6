/-
  PutS
-/
import Derived.Test.YtmbclopkopfngaaQTabC
import Derived.Test.YtmbclopkopfngaaQMarkLib
import Derived.Test.YtmbclopkopfngaaQPutL
import Derived.Test.YtmbclopkopfngaaQMachLib
import Derived.Test.YtmbclopkopfngaaQByteLib
import Derived.Deep.DeepCutAuto
namespace Go.Proofs.Ytmbclopkopfngaa
open Go.RowKit

set_option linter.unusedVariables false
set_option linter.unusedSimpArgs false
set_option maxRecDepth 100000

set_option maxHeartbeats 32000000 in
theorem l5PutT_any (t : TabTab) (a : TabAtom) (vt1 va1 va2 : Value) (Fs : List (List Nat)) (xs : List Value) (wb w : World) (hA : App wb w 30 vt1 t.atoms Fs xs) (ha1 : Sl w (Old w) va1 a.x.monos) (ha2 : Sl w (Old w) va2 a.y.monos) (hka : a.Ok) (hok : tabOkB t = true) (hn : Bulk.blk a ≤ 4194304) :
    Calls Try.prog 29 #[.agg #[vt1], .agg #[.int .i64 a.kind, .int .i64 a.k, va1, va2]] w fun e w' => ∃ r Fs' xs', e = .returned (.tuple #[.agg #[r], .int .i64 (tabPutAt t a)]) ∧ App wb w' 30 r (tabPut t a).atoms Fs' xs' ∧ Turn vt1.ownBlock.toList w w' ∧ (∀ q, r.ownBlock = some q → vt1.ownBlock = some q ∨ w.heap.size ≤ q) ∧ (∀ z, z ∈ Fs'.flatten → z ∈ Fs.flatten ∨ w.heap.size ≤ z) := by
  obtain ⟨OB, hOB⟩ : ∃ OB, OB = vt1.ownBlock.toList := ⟨_, rfl⟩
  rw [← hOB]
  have HOB := hide hOB
  clear hOB
  obtain ⟨F0, hO0, hF0⟩ := hA.done
  have ht1 : Sl w (Old w) vt1 t.atoms := hO0.sl.keep (fun _ _ _ => rfl) (fun b hb => (hF0.2 b hb).2)
  clear hO0 hF0
  have hrow : ∀ q, vt1.ownBlock = some q → wb.heap.size ≤ q ∧ q < w.heap.size := hA.row.lt
  have hfl : ∀ z, z ∈ Fs.flatten → z < w.heap.size := fun z hz => (hA.fr.2 z hz).2
  have hwb := hA.ext.size
  have HO := hide hok
  have hl200 : t.atoms.length ≤ 200 := by unfold tabOkB at hok; simp only [Bool.and_eq_true, decide_eq_true_eq] at hok; exact hok.1
  clear hok
  obtain ⟨At1, ct1, rfl, hlt1, hmt1⟩ := ht1.form
  obtain ⟨Aa1, ca1, rfl, hla1, hma1⟩ := ha1.form
  obtain ⟨Aa2, ca2, rfl, hla2, hma2⟩ := ha2.form
  unfold maxLen at hmt1 hma1 hma2
  obtain ⟨i0a, hi_, hz0, hz1, hz2⟩ := info_parts infTabAtom
  have HIa := hide hi_
  have HZ0a := hide hz0
  have HZ1a := hide hz1
  have HZ2a := hide hz2
  clear hi_ hz0 hz1 hz2
  have HT0 := hide (show tabPut t a = (if (atomOkB a (t.atoms.length : Int) && (findT t.atoms a == -1) && decide (t.atoms.length < 200)) = true then ⟨t.atoms ++ [a]⟩ else t) by unfold tabPut; rw [if_pos HO.out])
  have HN0 := hide (show tabPutAt t a = (if atomOkB a (t.atoms.length : Int) = true then (if findT t.atoms a = -1 then (if t.atoms.length < 200 then (t.atoms.length : Int) else -1) else findT t.atoms a) else -1) by unfold tabPutAt; rw [if_pos HO.out])
  cases q0 : atomOkB a (t.atoms.length : Int)
  · 
    have HT := hide (show tabPut t a = t by rw [HT0.out, q0]; rfl)
    have HN := hide (show tabPutAt t a = -1 by rw [HN0.out, q0]; rfl)
    go_enter Try.func29, Try.ntmps29
    go_upto_region 1 with fail
    have he0 : Ext w (((w.alloc (Obj.cells #[(.slice At1 t.atoms.length ct1)] 25)).alloc (Obj.cells #[.int .i64 a.kind, .int .i64 a.k, (.slice Aa1 a.x.monos.length ca1), (.slice Aa2 a.y.monos.length ca2)] 30)).alloc (Obj.cells #[.slice none 0 0] 25)) := (Ext.auto)
    have hs0 : w.heap.size + 3 ≤ ((((w.alloc (Obj.cells #[(.slice At1 t.atoms.length ct1)] 25)).alloc (Obj.cells #[.int .i64 a.kind, .int .i64 a.k, (.slice Aa1 a.x.monos.length ca1), (.slice Aa2 a.y.monos.length ca2)] 30)).alloc (Obj.cells #[.slice none 0 0] 25))).heap.size := by simp
    have hq0 := hide (show ((((w.alloc (Obj.cells #[(.slice At1 t.atoms.length ct1)] 25)).alloc (Obj.cells #[.int .i64 a.kind, .int .i64 a.k, (.slice Aa1 a.x.monos.length ca1), (.slice Aa2 a.y.monos.length ca2)] 30)).alloc (Obj.cells #[.slice none 0 0] 25))).heap.size = w.heap.size + 3 by simp)
    have hBt_0 : Bx (((w.alloc (Obj.cells #[(.slice At1 t.atoms.length ct1)] 25)).alloc (Obj.cells #[.int .i64 a.kind, .int .i64 a.k, (.slice Aa1 a.x.monos.length ca1), (.slice Aa2 a.y.monos.length ca2)] 30)).alloc (Obj.cells #[.slice none 0 0] 25)) (w.heap.size) [(.slice At1 t.atoms.length ct1)] := (by have := (Bx.alloc (Bx.alloc (Bx.new w #[(.slice At1 t.atoms.length ct1)] 25) (by simp) #[.int .i64 a.kind, .int .i64 a.k, (.slice Aa1 a.x.monos.length ca1), (.slice Aa2 a.y.monos.length ca2)] 30) (by first | (simp; done) | (simp; omega)) #[.slice none 0 0] 25); simpa using this)
    have hFt_0 : ∀ oo, ((((w.alloc (Obj.cells #[(.slice At1 t.atoms.length ct1)] 25)).alloc (Obj.cells #[.int .i64 a.kind, .int .i64 a.k, (.slice Aa1 a.x.monos.length ca1), (.slice Aa2 a.y.monos.length ca2)] 30)).alloc (Obj.cells #[.slice none 0 0] 25))).frozen? ⟨w.heap.size, oo, none⟩ = false := (fz_alloc (fz_alloc (fz_new w #[(.slice At1 t.atoms.length ct1)] 25 (by first | rfl | (simp; done))) (by first | (simp; done) | (simp; omega)) (Obj.cells #[.int .i64 a.kind, .int .i64 a.k, (.slice Aa1 a.x.monos.length ca1), (.slice Aa2 a.y.monos.length ca2)] 30)) (by first | (simp; done) | (simp; omega)) (Obj.cells #[.slice none 0 0] 25))
    have hBa_0 : Bx (((w.alloc (Obj.cells #[(.slice At1 t.atoms.length ct1)] 25)).alloc (Obj.cells #[.int .i64 a.kind, .int .i64 a.k, (.slice Aa1 a.x.monos.length ca1), (.slice Aa2 a.y.monos.length ca2)] 30)).alloc (Obj.cells #[.slice none 0 0] 25)) (w.heap.size + 1) [.int .i64 a.kind, .int .i64 a.k, (.slice Aa1 a.x.monos.length ca1), (.slice Aa2 a.y.monos.length ca2)] := (by have := (Bx.alloc (Bx.new (w.alloc (Obj.cells #[(.slice At1 t.atoms.length ct1)] 25)) #[.int .i64 a.kind, .int .i64 a.k, (.slice Aa1 a.x.monos.length ca1), (.slice Aa2 a.y.monos.length ca2)] 30) (by simp) #[.slice none 0 0] 25); simpa using this)
    have hFa_0 : ∀ oo, ((((w.alloc (Obj.cells #[(.slice At1 t.atoms.length ct1)] 25)).alloc (Obj.cells #[.int .i64 a.kind, .int .i64 a.k, (.slice Aa1 a.x.monos.length ca1), (.slice Aa2 a.y.monos.length ca2)] 30)).alloc (Obj.cells #[.slice none 0 0] 25))).frozen? ⟨w.heap.size + 1, oo, none⟩ = false := (fz_alloc (fz_new (w.alloc (Obj.cells #[(.slice At1 t.atoms.length ct1)] 25)) #[.int .i64 a.kind, .int .i64 a.k, (.slice Aa1 a.x.monos.length ca1), (.slice Aa2 a.y.monos.length ca2)] 30 (by first | rfl | (simp; done))) (by first | (simp; done) | (simp; omega)) (Obj.cells #[.slice none 0 0] 25))
    have hBres_0 : Bx (((w.alloc (Obj.cells #[(.slice At1 t.atoms.length ct1)] 25)).alloc (Obj.cells #[.int .i64 a.kind, .int .i64 a.k, (.slice Aa1 a.x.monos.length ca1), (.slice Aa2 a.y.monos.length ca2)] 30)).alloc (Obj.cells #[.slice none 0 0] 25)) (w.heap.size + 1 + 1) [.slice none 0 0] := (by have := (Bx.new ((w.alloc (Obj.cells #[(.slice At1 t.atoms.length ct1)] 25)).alloc (Obj.cells #[.int .i64 a.kind, .int .i64 a.k, (.slice Aa1 a.x.monos.length ca1), (.slice Aa2 a.y.monos.length ca2)] 30)) #[.slice none 0 0] 25); simpa using this)
    have hFres_0 : ∀ oo, ((((w.alloc (Obj.cells #[(.slice At1 t.atoms.length ct1)] 25)).alloc (Obj.cells #[.int .i64 a.kind, .int .i64 a.k, (.slice Aa1 a.x.monos.length ca1), (.slice Aa2 a.y.monos.length ca2)] 30)).alloc (Obj.cells #[.slice none 0 0] 25))).frozen? ⟨w.heap.size + 1 + 1, oo, none⟩ = false := (fz_new ((w.alloc (Obj.cells #[(.slice At1 t.atoms.length ct1)] 25)).alloc (Obj.cells #[.int .i64 a.kind, .int .i64 a.k, (.slice Aa1 a.x.monos.length ca1), (.slice Aa2 a.y.monos.length ca2)] 30)) #[.slice none 0 0] 25 (by first | rfl | (simp; done)))
    generalize (((w.alloc (Obj.cells #[(.slice At1 t.atoms.length ct1)] 25)).alloc (Obj.cells #[.int .i64 a.kind, .int .i64 a.k, (.slice Aa1 a.x.monos.length ca1), (.slice Aa2 a.y.monos.length ca2)] 30)).alloc (Obj.cells #[.slice none 0 0] 25)) = w0 at *
    have yt : w.heap.size < w0.heap.size := by omega
    have xt0 : w0.cell? ⟨w.heap.size, 0, none⟩ = some ((.slice At1 t.atoms.length ct1)) := hBt_0 0 _ rfl
    have ft := hFt_0
    have ya : w.heap.size + 1 < w0.heap.size := by omega
    have xa0 := hBa_0 0 _ rfl
    have xa1 := hBa_0 1 _ rfl
    have xa2 := hBa_0 2 _ rfl
    have xa3 := hBa_0 3 _ rfl
    have fa := hFa_0
    have yres : w.heap.size + 1 + 1 < w0.heap.size := by omega
    have xres0 : w0.cell? ⟨w.heap.size + 1 + 1, 0, none⟩ = some (.slice none 0 0) := hBres_0 0 _ rfl
    have fres := hFres_0
    go_wp2_with fail
    refine (specAtom_any a (t.atoms.length : Int) _ _ _ (ha1.ext (Ext.trans he0 Ext.auto)) (ha2.ext (Ext.trans he0 Ext.auto))).mono ?_
    rintro e w1 ⟨rfl, hy⟩
    simp only [q0]
    clear xt0 yt
    clear ft
    clear xa0 xa1 xa2 xa3 ya
    clear fa
    clear xres0 yres
    clear fres
    have hx1 : Ext w0 w1 := Ext.trans (Ext.auto) hy
    have hs1 := hx1.size
    have he1 : Ext w w1 := he0.trans hx1
    have hBt_1 : Bx w1 (w.heap.size) [(.slice At1 t.atoms.length ct1)] := hx1.bx hBt_0 (by omega)
    have hFt_1 : ∀ oo, w1.frozen? ⟨w.heap.size, oo, none⟩ = false := fun oo => (hx1.frozen (by omega)).trans (hFt_0 oo)
    have hBa_1 : Bx w1 (w.heap.size + 1) [.int .i64 a.kind, .int .i64 a.k, (.slice Aa1 a.x.monos.length ca1), (.slice Aa2 a.y.monos.length ca2)] := hx1.bx hBa_0 (by omega)
    have hFa_1 : ∀ oo, w1.frozen? ⟨w.heap.size + 1, oo, none⟩ = false := fun oo => (hx1.frozen (by omega)).trans (hFa_0 oo)
    have hBres_1 : Bx w1 (w.heap.size + 1 + 1) [.slice none 0 0] := hx1.bx hBres_0 (by omega)
    have hFres_1 : ∀ oo, w1.frozen? ⟨w.heap.size + 1 + 1, oo, none⟩ = false := fun oo => (hx1.frozen (by omega)).trans (hFres_0 oo)
    clear hBt_0 hFt_0 hBa_0 hFa_0 hBres_0 hFres_0
    clear hy
    have yt : w.heap.size < w1.heap.size := by omega
    have xt0 : w1.cell? ⟨w.heap.size, 0, none⟩ = some ((.slice At1 t.atoms.length ct1)) := hBt_1 0 _ rfl
    have ft := hFt_1
    have yres : w.heap.size + 1 + 1 < w1.heap.size := by omega
    have xres0 : w1.cell? ⟨w.heap.size + 1 + 1, 0, none⟩ = some (.slice none 0 0) := hBres_1 0 _ rfl
    have fres := hFres_1
    go_wp2
    refine bodyPost_ret (v := .tuple #[.agg #[.slice At1 t.atoms.length ct1], .int .i64 (-1)]) (by simp [results, Try.results29, go_sem, xres0]) rfl ⟨_, Fs, xs, by rw [HN.out], by rw [HT.out]; exact App.set (hA.call he1) _ (fun q => by have := hrow _ q; simp at this; omega) (fun hm => by have := hfl _ hm; simp at this; omega) (by simp; omega), Turn.hold (Turn.of_ext he1 _), fun q hq => .inl hq, fun z hz => .inl hz⟩
  have HT1 := hide (show tabPut t a = (if ((findT t.atoms a == -1) && decide (t.atoms.length < 200)) = true then ⟨t.atoms ++ [a]⟩ else t) by rw [HT0.out, q0, Bool.true_and])
  have HN1 := hide (show tabPutAt t a = (if findT t.atoms a = -1 then (if t.atoms.length < 200 then (t.atoms.length : Int) else -1) else findT t.atoms a) by rw [HN0.out, q0, if_pos rfl])
  clear HT0 HN0
  go_enter Try.func29, Try.ntmps29
  go_upto_region 1 with fail
  have he0 : Ext w (((w.alloc (Obj.cells #[(.slice At1 t.atoms.length ct1)] 25)).alloc (Obj.cells #[.int .i64 a.kind, .int .i64 a.k, (.slice Aa1 a.x.monos.length ca1), (.slice Aa2 a.y.monos.length ca2)] 30)).alloc (Obj.cells #[.slice none 0 0] 25)) := (Ext.auto)
  have hs0 : w.heap.size + 3 ≤ ((((w.alloc (Obj.cells #[(.slice At1 t.atoms.length ct1)] 25)).alloc (Obj.cells #[.int .i64 a.kind, .int .i64 a.k, (.slice Aa1 a.x.monos.length ca1), (.slice Aa2 a.y.monos.length ca2)] 30)).alloc (Obj.cells #[.slice none 0 0] 25))).heap.size := by simp
  have hq0 := hide (show ((((w.alloc (Obj.cells #[(.slice At1 t.atoms.length ct1)] 25)).alloc (Obj.cells #[.int .i64 a.kind, .int .i64 a.k, (.slice Aa1 a.x.monos.length ca1), (.slice Aa2 a.y.monos.length ca2)] 30)).alloc (Obj.cells #[.slice none 0 0] 25))).heap.size = w.heap.size + 3 by simp)
  have hBt_0 : Bx (((w.alloc (Obj.cells #[(.slice At1 t.atoms.length ct1)] 25)).alloc (Obj.cells #[.int .i64 a.kind, .int .i64 a.k, (.slice Aa1 a.x.monos.length ca1), (.slice Aa2 a.y.monos.length ca2)] 30)).alloc (Obj.cells #[.slice none 0 0] 25)) (w.heap.size) [(.slice At1 t.atoms.length ct1)] := (by have := (Bx.alloc (Bx.alloc (Bx.new w #[(.slice At1 t.atoms.length ct1)] 25) (by simp) #[.int .i64 a.kind, .int .i64 a.k, (.slice Aa1 a.x.monos.length ca1), (.slice Aa2 a.y.monos.length ca2)] 30) (by first | (simp; done) | (simp; omega)) #[.slice none 0 0] 25); simpa using this)
  have hFt_0 : ∀ oo, ((((w.alloc (Obj.cells #[(.slice At1 t.atoms.length ct1)] 25)).alloc (Obj.cells #[.int .i64 a.kind, .int .i64 a.k, (.slice Aa1 a.x.monos.length ca1), (.slice Aa2 a.y.monos.length ca2)] 30)).alloc (Obj.cells #[.slice none 0 0] 25))).frozen? ⟨w.heap.size, oo, none⟩ = false := (fz_alloc (fz_alloc (fz_new w #[(.slice At1 t.atoms.length ct1)] 25 (by first | rfl | (simp; done))) (by first | (simp; done) | (simp; omega)) (Obj.cells #[.int .i64 a.kind, .int .i64 a.k, (.slice Aa1 a.x.monos.length ca1), (.slice Aa2 a.y.monos.length ca2)] 30)) (by first | (simp; done) | (simp; omega)) (Obj.cells #[.slice none 0 0] 25))
  have hBa_0 : Bx (((w.alloc (Obj.cells #[(.slice At1 t.atoms.length ct1)] 25)).alloc (Obj.cells #[.int .i64 a.kind, .int .i64 a.k, (.slice Aa1 a.x.monos.length ca1), (.slice Aa2 a.y.monos.length ca2)] 30)).alloc (Obj.cells #[.slice none 0 0] 25)) (w.heap.size + 1) [.int .i64 a.kind, .int .i64 a.k, (.slice Aa1 a.x.monos.length ca1), (.slice Aa2 a.y.monos.length ca2)] := (by have := (Bx.alloc (Bx.new (w.alloc (Obj.cells #[(.slice At1 t.atoms.length ct1)] 25)) #[.int .i64 a.kind, .int .i64 a.k, (.slice Aa1 a.x.monos.length ca1), (.slice Aa2 a.y.monos.length ca2)] 30) (by simp) #[.slice none 0 0] 25); simpa using this)
  have hFa_0 : ∀ oo, ((((w.alloc (Obj.cells #[(.slice At1 t.atoms.length ct1)] 25)).alloc (Obj.cells #[.int .i64 a.kind, .int .i64 a.k, (.slice Aa1 a.x.monos.length ca1), (.slice Aa2 a.y.monos.length ca2)] 30)).alloc (Obj.cells #[.slice none 0 0] 25))).frozen? ⟨w.heap.size + 1, oo, none⟩ = false := (fz_alloc (fz_new (w.alloc (Obj.cells #[(.slice At1 t.atoms.length ct1)] 25)) #[.int .i64 a.kind, .int .i64 a.k, (.slice Aa1 a.x.monos.length ca1), (.slice Aa2 a.y.monos.length ca2)] 30 (by first | rfl | (simp; done))) (by first | (simp; done) | (simp; omega)) (Obj.cells #[.slice none 0 0] 25))
  have hBres_0 : Bx (((w.alloc (Obj.cells #[(.slice At1 t.atoms.length ct1)] 25)).alloc (Obj.cells #[.int .i64 a.kind, .int .i64 a.k, (.slice Aa1 a.x.monos.length ca1), (.slice Aa2 a.y.monos.length ca2)] 30)).alloc (Obj.cells #[.slice none 0 0] 25)) (w.heap.size + 1 + 1) [.slice none 0 0] := (by have := (Bx.new ((w.alloc (Obj.cells #[(.slice At1 t.atoms.length ct1)] 25)).alloc (Obj.cells #[.int .i64 a.kind, .int .i64 a.k, (.slice Aa1 a.x.monos.length ca1), (.slice Aa2 a.y.monos.length ca2)] 30)) #[.slice none 0 0] 25); simpa using this)
  have hFres_0 : ∀ oo, ((((w.alloc (Obj.cells #[(.slice At1 t.atoms.length ct1)] 25)).alloc (Obj.cells #[.int .i64 a.kind, .int .i64 a.k, (.slice Aa1 a.x.monos.length ca1), (.slice Aa2 a.y.monos.length ca2)] 30)).alloc (Obj.cells #[.slice none 0 0] 25))).frozen? ⟨w.heap.size + 1 + 1, oo, none⟩ = false := (fz_new ((w.alloc (Obj.cells #[(.slice At1 t.atoms.length ct1)] 25)).alloc (Obj.cells #[.int .i64 a.kind, .int .i64 a.k, (.slice Aa1 a.x.monos.length ca1), (.slice Aa2 a.y.monos.length ca2)] 30)) #[.slice none 0 0] 25 (by first | rfl | (simp; done)))
  generalize (((w.alloc (Obj.cells #[(.slice At1 t.atoms.length ct1)] 25)).alloc (Obj.cells #[.int .i64 a.kind, .int .i64 a.k, (.slice Aa1 a.x.monos.length ca1), (.slice Aa2 a.y.monos.length ca2)] 30)).alloc (Obj.cells #[.slice none 0 0] 25)) = w0 at *
  have yt : w.heap.size < w0.heap.size := by omega
  have xt0 : w0.cell? ⟨w.heap.size, 0, none⟩ = some ((.slice At1 t.atoms.length ct1)) := hBt_0 0 _ rfl
  have ft := hFt_0
  have ya : w.heap.size + 1 < w0.heap.size := by omega
  have xa0 := hBa_0 0 _ rfl
  have xa1 := hBa_0 1 _ rfl
  have xa2 := hBa_0 2 _ rfl
  have xa3 := hBa_0 3 _ rfl
  have fa := hFa_0
  have yres : w.heap.size + 1 + 1 < w0.heap.size := by omega
  have xres0 : w0.cell? ⟨w.heap.size + 1 + 1, 0, none⟩ = some (.slice none 0 0) := hBres_0 0 _ rfl
  have fres := hFres_0
  go_wp2_with fail
  refine (specAtom_any a (t.atoms.length : Int) _ _ _ (ha1.ext (Ext.trans he0 Ext.auto)) (ha2.ext (Ext.trans he0 Ext.auto))).mono ?_
  rintro e w1 ⟨rfl, hy⟩
  simp only [q0]
  clear xt0 yt
  clear ft
  clear xa0 xa1 xa2 xa3 ya
  clear fa
  clear xres0 yres
  clear fres
  have hx1 : Ext w0 w1 := Ext.trans (Ext.auto) hy
  have hs1 := hx1.size
  have he1 : Ext w w1 := he0.trans hx1
  have hBt_1 : Bx w1 (w.heap.size) [(.slice At1 t.atoms.length ct1)] := hx1.bx hBt_0 (by omega)
  have hFt_1 : ∀ oo, w1.frozen? ⟨w.heap.size, oo, none⟩ = false := fun oo => (hx1.frozen (by omega)).trans (hFt_0 oo)
  have hBa_1 : Bx w1 (w.heap.size + 1) [.int .i64 a.kind, .int .i64 a.k, (.slice Aa1 a.x.monos.length ca1), (.slice Aa2 a.y.monos.length ca2)] := hx1.bx hBa_0 (by omega)
  have hFa_1 : ∀ oo, w1.frozen? ⟨w.heap.size + 1, oo, none⟩ = false := fun oo => (hx1.frozen (by omega)).trans (hFa_0 oo)
  have hBres_1 : Bx w1 (w.heap.size + 1 + 1) [.slice none 0 0] := hx1.bx hBres_0 (by omega)
  have hFres_1 : ∀ oo, w1.frozen? ⟨w.heap.size + 1 + 1, oo, none⟩ = false := fun oo => (hx1.frozen (by omega)).trans (hFres_0 oo)
  clear hBt_0 hFt_0 hBa_0 hFa_0 hBres_0 hFres_0
  clear hy
  clear q0
  have yt : w.heap.size < w1.heap.size := by omega
  have xt0 : w1.cell? ⟨w.heap.size, 0, none⟩ = some ((.slice At1 t.atoms.length ct1)) := hBt_1 0 _ rfl
  have ft := hFt_1
  go_wp2
  clear xt0 yt
  clear ft
  go_loopw [6] (fun i wr => ∃ k : Nat, k ≤ t.atoms.length ∧ i = .int .i64 k ∧ Ext w1 wr ∧ Hid (∀ j, j < k → gA t.atoms j ≠ a)) (fun i _ => t.atoms.length - (intOf i).toNat)
  case atStart => exact ⟨0, by omega, rfl, Ext.refl _, fun j hj => absurd hj (by omega)⟩
  case round =>
    obtain ⟨k, hk, rfl, hy, HF⟩ := hrel
    obtain ⟨w2, hw2⟩ : ∃ w2 : World, w2 = wr := ⟨_, rfl⟩
    subst hw2
    have hx2 : Ext w1 w2 := Ext.trans (Ext.auto) hy
    have hs2 := hx2.size
    have he2 : Ext w w2 := he1.trans hx2
    have hBt_2 : Bx w2 (w.heap.size) [(.slice At1 t.atoms.length ct1)] := hx2.bx hBt_1 (by omega)
    have hFt_2 : ∀ oo, w2.frozen? ⟨w.heap.size, oo, none⟩ = false := fun oo => (hx2.frozen (by omega)).trans (hFt_1 oo)
    have hBa_2 : Bx w2 (w.heap.size + 1) [.int .i64 a.kind, .int .i64 a.k, (.slice Aa1 a.x.monos.length ca1), (.slice Aa2 a.y.monos.length ca2)] := hx2.bx hBa_1 (by omega)
    have hFa_2 : ∀ oo, w2.frozen? ⟨w.heap.size + 1, oo, none⟩ = false := fun oo => (hx2.frozen (by omega)).trans (hFa_1 oo)
    have hBres_2 : Bx w2 (w.heap.size + 1 + 1) [.slice none 0 0] := hx2.bx hBres_1 (by omega)
    have hFres_2 : ∀ oo, w2.frozen? ⟨w.heap.size + 1 + 1, oo, none⟩ = false := fun oo => (hx2.frozen (by omega)).trans (hFres_1 oo)
    clear hBt_1 hFt_1 hBa_1 hFa_1 hBres_1 hFres_1
    clear hy
    by_cases hlt : k < t.atoms.length
    · 
      obtain ⟨b, off, vb1, vb2, rfl, hbo, hk0, hvb1, hvb2, e0, e1, e2, e3⟩ := at_TabAtom (ht1.ext he2) hlt
      obtain ⟨Avb1, cvb1, rfl, -, -⟩ := hvb1.form
      obtain ⟨Avb2, cvb2, rfl, -, -⟩ := hvb2.form
      have hbo1 : b < w2.heap.size := hbo
      have z0 : (0 : Int) ≤ (k : Int) := by omega
      have z1 : (k : Int) < (t.atoms.length : Int) := by omega
      have HG := hide (gA_at t.atoms k hlt)
      have yt : w.heap.size < w2.heap.size := by omega
      have xt0 : w2.cell? ⟨w.heap.size, 0, none⟩ = some ((.slice (some ⟨b, off, none⟩) t.atoms.length ct1)) := hBt_2 0 _ rfl
      have ft := hFt_2
      have ya : w.heap.size + 1 < w2.heap.size := by omega
      have xa0 := hBa_2 0 _ rfl
      have xa1 := hBa_2 1 _ rfl
      have xa2 := hBa_2 2 _ rfl
      have xa3 := hBa_2 3 _ rfl
      have fa := hFa_2
      go_upto_region 6 with fail
      have hS : ∀ w', Ext w2 w' → ∀ bb oo, bb < w2.heap.size → w'.cell? ⟨bb, oo, none⟩ = w2.cell? ⟨bb, oo, none⟩ := fun w' hx bb oo hb => hx.cell hb
      refine wp_region_plan (fun w' => Ext w2 w') 6 (.float 0 (.float 1 (.float 2 (.float 3 (.float 4 (.float 5 (.tail 6))))))) (by kernel_rfl) (by kernel_rfl) (Ext.refl _).drew ?_
      iterate 6 ((refine Plan.float_step (v := ?_) rfl (by rfl) (fun _ _ _ h => h) (fun w' hSw => ?_) ?_; rotate_left; · (go_simp; try with_reducible rfl)); (try simp only [Act.put, List.setIfInBounds_toArray, List.set_cons_zero, List.set_cons_succ]))
      refine Plan.tail_step ?_
      simp only [List.drop_succ_cons, List.drop_zero]
      clear hS
      go_wp2_with fail
      refine (specSameAtom_any t.atoms[k] a _ _ _ _ _ (hvb1.ext Ext.auto) (hvb2.ext Ext.auto) (ha1.ext (Ext.trans he2 Ext.auto)) (ha2.ext (Ext.trans he2 Ext.auto))).mono ?_
      rintro e w3 ⟨rfl, hy⟩
      clear xt0 yt
      clear ft
      clear xa0 xa1 xa2 xa3 ya
      clear fa
      have hx3 : Ext w2 w3 := Ext.trans (Ext.auto) hy
      have hs3 := hx3.size
      have he3 : Ext w w3 := he2.trans hx3
      have hBt_3 : Bx w3 (w.heap.size) [(.slice (some ⟨b, off, none⟩) t.atoms.length ct1)] := hx3.bx hBt_2 (by omega)
      have hFt_3 : ∀ oo, w3.frozen? ⟨w.heap.size, oo, none⟩ = false := fun oo => (hx3.frozen (by omega)).trans (hFt_2 oo)
      have hBa_3 : Bx w3 (w.heap.size + 1) [.int .i64 a.kind, .int .i64 a.k, (.slice Aa1 a.x.monos.length ca1), (.slice Aa2 a.y.monos.length ca2)] := hx3.bx hBa_2 (by omega)
      have hFa_3 : ∀ oo, w3.frozen? ⟨w.heap.size + 1, oo, none⟩ = false := fun oo => (hx3.frozen (by omega)).trans (hFa_2 oo)
      have hBres_3 : Bx w3 (w.heap.size + 1 + 1) [.slice none 0 0] := hx3.bx hBres_2 (by omega)
      have hFres_3 : ∀ oo, w3.frozen? ⟨w.heap.size + 1 + 1, oo, none⟩ = false := fun oo => (hx3.frozen (by omega)).trans (hFres_2 oo)
      clear hBt_2 hFt_2 hBa_2 hFa_2 hBres_2 hFres_2
      clear hy e0 e1 e2 e3
      cases qs : decide (t.atoms[k] = a)
      · 
        have HNx := hide (show ∀ j, j < k + 1 → gA t.atoms j ≠ a from fun j hj => by
          by_cases e : j = k
          · subst e; rw [HG.out]; exact of_decide_eq_false qs
          · exact HF.out j (by omega))
        go_wp2_with fail
        go_roundw
        case rel => exact ⟨k + 1, by omega, by go_num, hx2.trans hx3, HNx.out⟩
        case measure => (simp [intOf]; try omega)
      · 
        have HFD := hide (findT_at hlt HF.out (by rw [HG.out]; exact of_decide_eq_true qs))
        have HT := hide (show tabPut t a = t by rw [HT1.out, HFD.out]; rw [if_neg]; simp)
        have HN := hide (show tabPutAt t a = (k : Int) by rw [HN1.out, HFD.out]; rw [if_neg (by omega)])
        have yt : w.heap.size < w3.heap.size := by omega
        have xt0 : w3.cell? ⟨w.heap.size, 0, none⟩ = some ((.slice (some ⟨b, off, none⟩) t.atoms.length ct1)) := hBt_3 0 _ rfl
        have ft := hFt_3
        have yres : w.heap.size + 1 + 1 < w3.heap.size := by omega
        have xres0 : w3.cell? ⟨w.heap.size + 1 + 1, 0, none⟩ = some (.slice none 0 0) := hBres_3 0 _ rfl
        have fres := hFres_3
        go_wp2
        refine bodyPost_ret (v := .tuple #[.agg #[.slice (some ⟨b, off, none⟩) t.atoms.length ct1], .int .i64 (k : Int)]) (by simp [results, Try.results29, go_sem, xres0]) rfl ⟨_, Fs, xs, by rw [HN.out], by rw [HT.out]; exact App.set (hA.call he3) _ (fun q => by have := hrow _ q; simp at this; omega) (fun hm => by have := hfl _ hm; simp at this; omega) (by simp; omega), Turn.hold (Turn.of_ext he3 _), fun q hq => .inl hq, fun z hz => .inl hz⟩
    · 
      obtain rfl : k = t.atoms.length := by omega
      have HFD := hide (findT_none HF.out)
      cases ql : ((t.atoms.length : Int) == 200)
      rotate_left
      · 
        have hl_ : t.atoms.length = 200 := by simp at ql; omega
        have HT := hide (show tabPut t a = t by rw [HT1.out, HFD.out]; rw [if_neg]; simp; omega)
        have HN := hide (show tabPutAt t a = -1 by rw [HN1.out, HFD.out, if_pos rfl, if_neg (by omega)])
        clear hl_
        have yt : w.heap.size < w2.heap.size := by omega
        have xt0 : w2.cell? ⟨w.heap.size, 0, none⟩ = some ((.slice At1 t.atoms.length ct1)) := hBt_2 0 _ rfl
        have ft := hFt_2
        have yres : w.heap.size + 1 + 1 < w2.heap.size := by omega
        have xres0 : w2.cell? ⟨w.heap.size + 1 + 1, 0, none⟩ = some (.slice none 0 0) := hBres_2 0 _ rfl
        have fres := hFres_2
        go_wp2
        refine bodyPost_ret (v := .tuple #[.agg #[.slice At1 t.atoms.length ct1], .int .i64 (-1)]) (by simp [results, Try.results29, go_sem, xres0]) rfl ⟨_, Fs, xs, by rw [HN.out], by rw [HT.out]; exact App.set (hA.call he2) _ (fun q => by have := hrow _ q; simp at this; omega) (fun hm => by have := hfl _ hm; simp at this; omega) (by simp; omega), Turn.hold (Turn.of_ext he2 _), fun q hq => .inl hq, fun z hz => .inl hz⟩
      have hl_ : t.atoms.length < 200 := by simp at ql; omega
      have HT := hide (show tabPut t a = ⟨t.atoms ++ [a]⟩ by rw [HT1.out, HFD.out]; rw [if_pos]; simp; omega)
      have HN := hide (show tabPutAt t a = (t.atoms.length : Int) by rw [HN1.out, HFD.out, if_pos rfl, if_pos hl_])
      have yt : w.heap.size < w2.heap.size := by omega
      have xt0 : w2.cell? ⟨w.heap.size, 0, none⟩ = some ((.slice At1 t.atoms.length ct1)) := hBt_2 0 _ rfl
      have ft := hFt_2
      have ya : w.heap.size + 1 < w2.heap.size := by omega
      have xa0 := hBa_2 0 _ rfl
      have xa1 := hBa_2 1 _ rfl
      have xa2 := hBa_2 2 _ rfl
      have xa3 := hBa_2 3 _ rfl
      have fa := hFa_2
      go_upto_region 10 with fail
      have hS : ∀ w', Ext w2 w' → ∀ bb oo, bb < w2.heap.size → w'.cell? ⟨bb, oo, none⟩ = w2.cell? ⟨bb, oo, none⟩ := fun w' hx bb oo hb => hx.cell hb
      refine wp_region_plan (fun w' => Ext w2 w') 5 (.float 0 (.float 1 (.float 2 (.chain 3 (.chain 4 (.tail 5)))))) (by kernel_rfl) (by kernel_rfl) (Ext.refl _).drew ?_
      iterate 3 ((refine Plan.float_step (v := ?_) rfl (by rfl) (fun _ _ _ h => h) (fun w' hSw => ?_) ?_; rotate_left; · (go_simp; try with_reducible rfl)); (try simp only [Act.put, List.setIfInBounds_toArray, List.set_cons_zero, List.set_cons_succ]))
      refine Plan.chain_step rfl (fun K hK => ?_)
      go_simp
      refine (l5Twin_any a _ _ _ (ha1.ext (Ext.trans he2 Ext.auto)) (ha2.ext (Ext.trans he2 Ext.auto)) hn).mono ?_
      rintro e w3 ⟨r1, r2, F1, F2, rfl, hP1, hO2, hF_, hy⟩
      have hxb : Ext w2 w3 := Ext.trans Ext.auto hy
      have hFF : Fr w2 w3 (F1 ++ F2) := hF_.mk1 (by simp) (Nat.le_refl _)
      clear hF_ hy
      have hsb := hxb.size
      obtain ⟨B1, d1, rfl, -, -⟩ := hP1.sl.form
      obtain ⟨B2, d2, rfl, -, -⟩ := hO2.sl.form
      refine hK.out _ _ hxb ?_
      clear hK
      (try simp only [Act.put, List.setIfInBounds_toArray, List.set_cons_zero, List.set_cons_succ])
      refine Plan.chain_step rfl (fun K hK => ?_)
      go_simp
      refine hK.out _ _ (hxb.alloc _) ?_
      clear hK
      (try simp only [Act.put, List.setIfInBounds_toArray, List.set_cons_zero, List.set_cons_succ])
      refine Plan.tail_step ?_
      simp only [List.drop_succ_cons, List.drop_zero]
      clear hS
      refine wpList_append_push2 (w0 := wb) (wr := w2) rfl _ _ 23 rfl i0a _ 64 Try.underlying23 HIa.out HZ0a.out HZ1a.out HZ2a.out rfl (by decide) (hA.call he2) rfl a #[.int .i64 a.kind, .int .i64 a.k, .slice B1 a.x.monos.length d1, .slice B2 a.y.monos.length d2] 30 (F1 ++ F2) _ rfl hxb ⟨_, _, F1, F2, rfl, hka, hP1, hO2, rfl⟩ hFF (by repeat (first | (exact fun _ h => absurd h (List.not_mem_nil)) | (refine List.forall_mem_cons.2 ⟨rfl, ?_⟩))) (by unfold maxLen; omega) (by omega) ?_
      intro v' wq9 xs' hA9 hg9 hb9
      have hz9 := hg9.size
      have hZ9 : w3.heap.size + 1 ≤ wq9.heap.size := by simpa using hz9
      have hne9 : ∀ b, w.heap.size ≤ b → some b ≠ (Value.ownBlock (.slice At1 t.atoms.length ct1)) := fun b hb q => by have := (hrow _ q.symm).2; omega
      have hBt9 : Bx wq9 (w.heap.size) [.slice At1 t.atoms.length ct1] := (show Bx (w3.alloc (.cells #[.int .i64 a.kind, .int .i64 a.k, .slice B1 a.x.monos.length d1, .slice B2 a.y.monos.length d2] 30)) (w.heap.size) [.slice At1 t.atoms.length ct1] from Bx.alloc (hxb.bx hBt_2 (by omega)) (by omega) _ _).grown hg9 (by simp; omega) (hne9 _ (by omega))
      have hFt9 : ∀ oo, wq9.frozen? ⟨w.heap.size, oo, none⟩ = false := fz_grown (show ∀ oo, (w3.alloc (.cells #[.int .i64 a.kind, .int .i64 a.k, .slice B1 a.x.monos.length d1, .slice B2 a.y.monos.length d2] 30)).frozen? ⟨w.heap.size, oo, none⟩ = false from fz_alloc (fun oo => (hxb.frozen (by omega)).trans (hFt_2 oo)) (by omega) _) hg9 (by simp; omega) (hne9 _ (by omega))
      have hBres9 : Bx wq9 (w.heap.size + 1 + 1) [.slice none 0 0] := (show Bx (w3.alloc (.cells #[.int .i64 a.kind, .int .i64 a.k, .slice B1 a.x.monos.length d1, .slice B2 a.y.monos.length d2] 30)) (w.heap.size + 1 + 1) [.slice none 0 0] from Bx.alloc (hxb.bx hBres_2 (by omega)) (by omega) _ _).grown hg9 (by simp; omega) (hne9 _ (by omega))
      have hFres9 : ∀ oo, wq9.frozen? ⟨w.heap.size + 1 + 1, oo, none⟩ = false := fz_grown (show ∀ oo, (w3.alloc (.cells #[.int .i64 a.kind, .int .i64 a.k, .slice B1 a.x.monos.length d1, .slice B2 a.y.monos.length d2] 30)).frozen? ⟨w.heap.size + 1 + 1, oo, none⟩ = false from fz_alloc (fun oo => (hxb.frozen (by omega)).trans (hFres_2 oo)) (by omega) _) hg9 (by simp; omega) (hne9 _ (by omega))
      have hvo9 : ∀ q, v'.ownBlock = some q → q < w.heap.size ∨ w2.heap.size ≤ q := fun q hq => by
        rcases hb9 with hb | hb
        · exact .inl (hrow q (hb ▸ hq)).2
        · rw [hb] at hq; injection hq with hq; simp at hq; omega
      have hfo9 : ∀ z, z ∈ (Fs ++ [F1 ++ F2]).flatten → z < w.heap.size ∨ w2.heap.size ≤ z := fun z hz => by
        rw [List.flatten_append] at hz
        rcases List.mem_append.1 hz with hz | hz
        · exact .inl (hfl z hz)
        · exact .inr (hFF.2 z (by simpa using hz)).1
      obtain ⟨L9, hL9⟩ : ∃ L9, L9 = t.atoms ++ [a] := ⟨_, rfl⟩
      have hl9 : L9.length = t.atoms.length + 1 := by rw [hL9]; simp
      rw [← hL9] at hA9
      have HL9 := hide hL9
      clear hL9
      obtain ⟨F9, hO9, -⟩ := hA9.done
      obtain ⟨A9, c9, rfl, -, -⟩ := hO9.sl.form
      clear hO9
      have zs : IntKind.i64.wrap ((L9.length : Int) - 1) = (t.atoms.length : Int) := by rw [IntKind.wrap_i64] <;> omega
      have HZS := hide hl9
      clear hl9
      clear xt0 yt ft xa0 xa1 xa2 xa3 ya fa
      have xt0 := hBt9 0 _ rfl
      have yt : w.heap.size < wq9.heap.size := by omega
      have ft := hFt9
      go_upto_region 11 with fail
      clear xt0 yt ft
      have hA8 : App wb (wq9.setCell ⟨w.heap.size, 0, none⟩ (.slice A9 L9.length c9)) 30 (.slice A9 L9.length c9) L9 (Fs ++ [F1 ++ F2]) xs' := App.set hA9 (p := ⟨w.heap.size, 0, none⟩) (.slice A9 L9.length c9) (fun q => by have := hvo9 _ q; simp at this; omega) (fun hm => by have := hfo9 _ hm; simp at this; omega) (by simp; omega)
      have hBt8 : Bx (wq9.setCell ⟨w.heap.size, 0, none⟩ (.slice A9 L9.length c9)) (w.heap.size) [.slice A9 L9.length c9] := by have := Bx.put hBt9 (j := 0) (by simp) (.slice A9 L9.length c9); simpa using this
      have hBr8 : Bx (wq9.setCell ⟨w.heap.size, 0, none⟩ (.slice A9 L9.length c9)) (w.heap.size + 1 + 1) [.slice none 0 0] := Bx.setCell hBres9 (by simp; omega) _
      have hFr8 : ∀ oo, (wq9.setCell ⟨w.heap.size, 0, none⟩ (.slice A9 L9.length c9)).frozen? ⟨w.heap.size + 1 + 1, oo, none⟩ = false := fz_set hFres9 _ _
      have hs8 : wq9.heap.size ≤ ((wq9.setCell ⟨w.heap.size, 0, none⟩ (.slice A9 L9.length c9))).heap.size := by simp
      have hvo8 : ∀ q, (Value.slice A9 L9.length c9).ownBlock = some q → (Value.slice At1 t.atoms.length ct1).ownBlock = some q ∨ w.heap.size ≤ q := fun q hq => by
        rcases hb9 with hb | hb
        · exact .inl (hb ▸ hq)
        · rw [hb] at hq; injection hq with hq; simp at hq; exact .inr (by omega)
      have hfo8 : ∀ z, z ∈ (Fs ++ [F1 ++ F2]).flatten → z ∈ Fs.flatten ∨ w.heap.size ≤ z := fun z hz => by
        rw [List.flatten_append] at hz
        rcases List.mem_append.1 hz with hz | hz
        · exact .inl hz
        · have := (hFF.2 z (by simpa using hz)).1; exact .inr (by omega)
      have hT8 : Turn OB w (wq9.setCell ⟨w.heap.size, 0, none⟩ (.slice A9 L9.length c9)) := Turn.set (by rw [HOB.out]; exact Turn.of_grown ((he2.trans hxb).alloc _) hg9) (.inr (by simp)) _
      generalize (wq9.setCell ⟨w.heap.size, 0, none⟩ (.slice A9 L9.length c9)) = w8 at *
      have xt0 := hBt8 0 _ rfl
      have yt : w.heap.size < w8.heap.size := by omega
      have xres0 := hBr8 0 _ rfl
      have yres : w.heap.size + 1 + 1 < w8.heap.size := by omega
      have fres := hFr8
      go_upto_region 11 with fail
      have hSt : ∀ w', Far (w.heap.size + 1 + 1) w8 w' → ∀ oo, w'.cell? ⟨w.heap.size, oo, none⟩ = w8.cell? ⟨w.heap.size, oo, none⟩ := fun w' hx oo => hx.2 _ oo (by omega) yt
      refine wp_region_plan (fun w' => Far (w.heap.size + 1 + 1) w8 w') 6 (.float 0 (.float 1 (.float 2 (.float 3 (.float 4 (.chain 5 (.tail 6))))))) (by kernel_rfl) (by kernel_rfl) (Far.drew _ _) ?_
      iterate 5 ((refine Plan.float_step (v := ?_) rfl (by rfl) (fun _ _ _ h => h) (fun w' hSw => ?_) ?_; rotate_left; · (go_simp; try with_reducible rfl)); (try simp only [Act.put, List.setIfInBounds_toArray, List.set_cons_zero, List.set_cons_succ]))
      refine Plan.chain_step rfl (fun K hK => ?_)
      go_simp
      refine hK.out _ _ (Far.set (Far.drew _ _) _ _) ?_
      clear hK
      (try simp only [Act.put, List.setIfInBounds_toArray, List.set_cons_zero, List.set_cons_succ])
      refine Plan.tail_step ?_
      simp only [List.drop_succ_cons, List.drop_zero]
      clear hSt
      go_wp2
      refine bodyPost_ret (v := .tuple #[.agg #[.slice A9 L9.length c9], .int .i64 (t.atoms.length : Int)]) (by simp [results, Try.results29, go_sem, xres0]) rfl ⟨_, _, _, by rw [HN.out], by rw [HT.out, show (TabTab.mk (t.atoms ++ [a])).atoms = L9 from HL9.out.symm]; exact App.set (hA8.call (Ext.refl _).drew) _ (fun q => by have := hvo9 _ q; simp at this; omega) (fun hm => by have := hfo9 _ hm; simp at this; omega) (by simp; omega), Turn.hold hT8, hvo8, hfo8⟩

theorem l5Put_any (t : TabTab) (a : TabAtom) (vt1 va1 va2 : Value) (Fs : List (List Nat)) (xs : List Value) (wb w : World) (hA : App wb w 30 vt1 t.atoms Fs xs) (ha1 : Sl w (Old w) va1 a.x.monos) (ha2 : Sl w (Old w) va2 a.y.monos) (hka : a.Ok) (hok : tabOkB t = true) (hn : Bulk.blk a ≤ 4194304) :
    Calls Try.prog 29 #[.agg #[vt1], .agg #[.int .i64 a.kind, .int .i64 a.k, va1, va2]] w fun e w' => ∃ r Fs' xs', e = .returned (.tuple #[.agg #[r], .int .i64 (tabPutAt t a)]) ∧ App wb w' 30 r (tabPut t a).atoms Fs' xs' :=
  (l5PutT_any t a vt1 va1 va2 Fs xs wb w hA ha1 ha2 hka hok hn).mono fun e w' ⟨r, Fs', xs', h1, h2, _⟩ => ⟨r, Fs', xs', h1, h2⟩

set_option maxHeartbeats 16000000 in
theorem specTabPut_any (t : TabTab) (a : TabAtom) (vt1 va1 va2 : Value) (w : World) (ht1 : Sl w (Old w) vt1 t.atoms) (ha1 : Sl w (Old w) va1 a.x.monos) (ha2 : Sl w (Old w) va2 a.y.monos) (hka : a.Ok) (hnt : Bulk.blk t ≤ 4194304) (hna : Bulk.blk a ≤ 4194304) :
    Calls Try.prog 8 #[.agg #[vt1], .agg #[.int .i64 a.kind, .int .i64 a.k, va1, va2]] w fun e w' => ∃ r F, e = .returned (.tuple #[.agg #[r], .int .i64 (tabPutAt t a)]) ∧ OwnSl w' r (tabPut t a).atoms F ∧ Fr w w' F ∧ Ext w w' ∧ Room w.heap.size 4 30 w' r := by
  obtain ⟨At1, ct1, rfl, hlt1, hmt1⟩ := ht1.form
  obtain ⟨Aa1, ca1, rfl, hla1, hma1⟩ := ha1.form
  obtain ⟨Aa2, ca2, rfl, hla2, hma2⟩ := ha2.form
  unfold maxLen at hmt1 hma1 hma2
  cases q0 : tabOkB t
  · 
    have HT := hide (show tabPut t a = ⟨[]⟩ by unfold tabPut; rw [q0]; rfl)
    have HN := hide (show tabPutAt t a = -1 by unfold tabPutAt; rw [q0]; rfl)
    go_enter Try.func8, Try.ntmps8
    go_upto_region 1 with fail
    have he0 : Ext w (((w.alloc (Obj.cells #[(.slice At1 t.atoms.length ct1)] 25)).alloc (Obj.cells #[.int .i64 a.kind, .int .i64 a.k, (.slice Aa1 a.x.monos.length ca1), (.slice Aa2 a.y.monos.length ca2)] 30)).alloc (Obj.cells #[.slice none 0 0] 25)) := (Ext.auto)
    have hs0 : w.heap.size + 3 ≤ ((((w.alloc (Obj.cells #[(.slice At1 t.atoms.length ct1)] 25)).alloc (Obj.cells #[.int .i64 a.kind, .int .i64 a.k, (.slice Aa1 a.x.monos.length ca1), (.slice Aa2 a.y.monos.length ca2)] 30)).alloc (Obj.cells #[.slice none 0 0] 25))).heap.size := by simp
    have hq0 := hide (show ((((w.alloc (Obj.cells #[(.slice At1 t.atoms.length ct1)] 25)).alloc (Obj.cells #[.int .i64 a.kind, .int .i64 a.k, (.slice Aa1 a.x.monos.length ca1), (.slice Aa2 a.y.monos.length ca2)] 30)).alloc (Obj.cells #[.slice none 0 0] 25))).heap.size = w.heap.size + 3 by simp)
    have hBt_0 : Bx (((w.alloc (Obj.cells #[(.slice At1 t.atoms.length ct1)] 25)).alloc (Obj.cells #[.int .i64 a.kind, .int .i64 a.k, (.slice Aa1 a.x.monos.length ca1), (.slice Aa2 a.y.monos.length ca2)] 30)).alloc (Obj.cells #[.slice none 0 0] 25)) (w.heap.size) [(.slice At1 t.atoms.length ct1)] := (by have := (Bx.alloc (Bx.alloc (Bx.new w #[(.slice At1 t.atoms.length ct1)] 25) (by simp) #[.int .i64 a.kind, .int .i64 a.k, (.slice Aa1 a.x.monos.length ca1), (.slice Aa2 a.y.monos.length ca2)] 30) (by first | (simp; done) | (simp; omega)) #[.slice none 0 0] 25); simpa using this)
    have hFt_0 : ∀ oo, ((((w.alloc (Obj.cells #[(.slice At1 t.atoms.length ct1)] 25)).alloc (Obj.cells #[.int .i64 a.kind, .int .i64 a.k, (.slice Aa1 a.x.monos.length ca1), (.slice Aa2 a.y.monos.length ca2)] 30)).alloc (Obj.cells #[.slice none 0 0] 25))).frozen? ⟨w.heap.size, oo, none⟩ = false := (fz_alloc (fz_alloc (fz_new w #[(.slice At1 t.atoms.length ct1)] 25 (by first | rfl | (simp; done))) (by first | (simp; done) | (simp; omega)) (Obj.cells #[.int .i64 a.kind, .int .i64 a.k, (.slice Aa1 a.x.monos.length ca1), (.slice Aa2 a.y.monos.length ca2)] 30)) (by first | (simp; done) | (simp; omega)) (Obj.cells #[.slice none 0 0] 25))
    have hBa_0 : Bx (((w.alloc (Obj.cells #[(.slice At1 t.atoms.length ct1)] 25)).alloc (Obj.cells #[.int .i64 a.kind, .int .i64 a.k, (.slice Aa1 a.x.monos.length ca1), (.slice Aa2 a.y.monos.length ca2)] 30)).alloc (Obj.cells #[.slice none 0 0] 25)) (w.heap.size + 1) [.int .i64 a.kind, .int .i64 a.k, (.slice Aa1 a.x.monos.length ca1), (.slice Aa2 a.y.monos.length ca2)] := (by have := (Bx.alloc (Bx.new (w.alloc (Obj.cells #[(.slice At1 t.atoms.length ct1)] 25)) #[.int .i64 a.kind, .int .i64 a.k, (.slice Aa1 a.x.monos.length ca1), (.slice Aa2 a.y.monos.length ca2)] 30) (by simp) #[.slice none 0 0] 25); simpa using this)
    have hFa_0 : ∀ oo, ((((w.alloc (Obj.cells #[(.slice At1 t.atoms.length ct1)] 25)).alloc (Obj.cells #[.int .i64 a.kind, .int .i64 a.k, (.slice Aa1 a.x.monos.length ca1), (.slice Aa2 a.y.monos.length ca2)] 30)).alloc (Obj.cells #[.slice none 0 0] 25))).frozen? ⟨w.heap.size + 1, oo, none⟩ = false := (fz_alloc (fz_new (w.alloc (Obj.cells #[(.slice At1 t.atoms.length ct1)] 25)) #[.int .i64 a.kind, .int .i64 a.k, (.slice Aa1 a.x.monos.length ca1), (.slice Aa2 a.y.monos.length ca2)] 30 (by first | rfl | (simp; done))) (by first | (simp; done) | (simp; omega)) (Obj.cells #[.slice none 0 0] 25))
    have hBres_0 : Bx (((w.alloc (Obj.cells #[(.slice At1 t.atoms.length ct1)] 25)).alloc (Obj.cells #[.int .i64 a.kind, .int .i64 a.k, (.slice Aa1 a.x.monos.length ca1), (.slice Aa2 a.y.monos.length ca2)] 30)).alloc (Obj.cells #[.slice none 0 0] 25)) (w.heap.size + 1 + 1) [.slice none 0 0] := (by have := (Bx.new ((w.alloc (Obj.cells #[(.slice At1 t.atoms.length ct1)] 25)).alloc (Obj.cells #[.int .i64 a.kind, .int .i64 a.k, (.slice Aa1 a.x.monos.length ca1), (.slice Aa2 a.y.monos.length ca2)] 30)) #[.slice none 0 0] 25); simpa using this)
    have hFres_0 : ∀ oo, ((((w.alloc (Obj.cells #[(.slice At1 t.atoms.length ct1)] 25)).alloc (Obj.cells #[.int .i64 a.kind, .int .i64 a.k, (.slice Aa1 a.x.monos.length ca1), (.slice Aa2 a.y.monos.length ca2)] 30)).alloc (Obj.cells #[.slice none 0 0] 25))).frozen? ⟨w.heap.size + 1 + 1, oo, none⟩ = false := (fz_new ((w.alloc (Obj.cells #[(.slice At1 t.atoms.length ct1)] 25)).alloc (Obj.cells #[.int .i64 a.kind, .int .i64 a.k, (.slice Aa1 a.x.monos.length ca1), (.slice Aa2 a.y.monos.length ca2)] 30)) #[.slice none 0 0] 25 (by first | rfl | (simp; done)))
    generalize (((w.alloc (Obj.cells #[(.slice At1 t.atoms.length ct1)] 25)).alloc (Obj.cells #[.int .i64 a.kind, .int .i64 a.k, (.slice Aa1 a.x.monos.length ca1), (.slice Aa2 a.y.monos.length ca2)] 30)).alloc (Obj.cells #[.slice none 0 0] 25)) = w0 at *
    have yt : w.heap.size < w0.heap.size := by omega
    have xt0 : w0.cell? ⟨w.heap.size, 0, none⟩ = some ((.slice At1 t.atoms.length ct1)) := hBt_0 0 _ rfl
    have ft := hFt_0
    have ya : w.heap.size + 1 < w0.heap.size := by omega
    have xa0 := hBa_0 0 _ rfl
    have xa1 := hBa_0 1 _ rfl
    have xa2 := hBa_0 2 _ rfl
    have xa3 := hBa_0 3 _ rfl
    have fa := hFa_0
    have yres : w.heap.size + 1 + 1 < w0.heap.size := by omega
    have xres0 : w0.cell? ⟨w.heap.size + 1 + 1, 0, none⟩ = some (.slice none 0 0) := hBres_0 0 _ rfl
    have fres := hFres_0
    go_wp2_with fail
    refine (specTabOk_any t _ _ (ht1.ext (Ext.trans he0 Ext.auto))).mono ?_
    rintro e w1 ⟨rfl, hy⟩
    simp only [q0]
    clear xt0 yt
    clear ft
    clear xa0 xa1 xa2 xa3 ya
    clear fa
    clear xres0 yres
    clear fres
    have hx1 : Ext w0 w1 := Ext.trans (Ext.auto) hy
    have hs1 := hx1.size
    have he1 : Ext w w1 := he0.trans hx1
    have hBt_1 : Bx w1 (w.heap.size) [(.slice At1 t.atoms.length ct1)] := hx1.bx hBt_0 (by omega)
    have hFt_1 : ∀ oo, w1.frozen? ⟨w.heap.size, oo, none⟩ = false := fun oo => (hx1.frozen (by omega)).trans (hFt_0 oo)
    have hBa_1 : Bx w1 (w.heap.size + 1) [.int .i64 a.kind, .int .i64 a.k, (.slice Aa1 a.x.monos.length ca1), (.slice Aa2 a.y.monos.length ca2)] := hx1.bx hBa_0 (by omega)
    have hFa_1 : ∀ oo, w1.frozen? ⟨w.heap.size + 1, oo, none⟩ = false := fun oo => (hx1.frozen (by omega)).trans (hFa_0 oo)
    have hBres_1 : Bx w1 (w.heap.size + 1 + 1) [.slice none 0 0] := hx1.bx hBres_0 (by omega)
    have hFres_1 : ∀ oo, w1.frozen? ⟨w.heap.size + 1 + 1, oo, none⟩ = false := fun oo => (hx1.frozen (by omega)).trans (hFres_0 oo)
    clear hBt_0 hFt_0 hBa_0 hFa_0 hBres_0 hFres_0
    clear hy
    have yres : w.heap.size + 1 + 1 < w1.heap.size := by omega
    have xres0 : w1.cell? ⟨w.heap.size + 1 + 1, 0, none⟩ = some (.slice none 0 0) := hBres_1 0 _ rfl
    have fres := hFres_1
    go_wp2
    refine bodyPost_ret (v := .tuple #[.agg #[.slice none 0 0], .int .i64 (-1)]) (by simp [results, Try.results8, go_sem, xres0]) rfl ⟨.slice none 0 0, [], by rw [HN.out], by rw [HT.out]; exact OwnSl.nil _, Fr.nil _ _, Ext.hold he1, Room.nil _ _ _ _⟩
  go_enter Try.func8, Try.ntmps8
  go_upto_region 1 with fail
  have he0 : Ext w (((w.alloc (Obj.cells #[(.slice At1 t.atoms.length ct1)] 25)).alloc (Obj.cells #[.int .i64 a.kind, .int .i64 a.k, (.slice Aa1 a.x.monos.length ca1), (.slice Aa2 a.y.monos.length ca2)] 30)).alloc (Obj.cells #[.slice none 0 0] 25)) := (Ext.auto)
  have hs0 : w.heap.size + 3 ≤ ((((w.alloc (Obj.cells #[(.slice At1 t.atoms.length ct1)] 25)).alloc (Obj.cells #[.int .i64 a.kind, .int .i64 a.k, (.slice Aa1 a.x.monos.length ca1), (.slice Aa2 a.y.monos.length ca2)] 30)).alloc (Obj.cells #[.slice none 0 0] 25))).heap.size := by simp
  have hq0 := hide (show ((((w.alloc (Obj.cells #[(.slice At1 t.atoms.length ct1)] 25)).alloc (Obj.cells #[.int .i64 a.kind, .int .i64 a.k, (.slice Aa1 a.x.monos.length ca1), (.slice Aa2 a.y.monos.length ca2)] 30)).alloc (Obj.cells #[.slice none 0 0] 25))).heap.size = w.heap.size + 3 by simp)
  have hBt_0 : Bx (((w.alloc (Obj.cells #[(.slice At1 t.atoms.length ct1)] 25)).alloc (Obj.cells #[.int .i64 a.kind, .int .i64 a.k, (.slice Aa1 a.x.monos.length ca1), (.slice Aa2 a.y.monos.length ca2)] 30)).alloc (Obj.cells #[.slice none 0 0] 25)) (w.heap.size) [(.slice At1 t.atoms.length ct1)] := (by have := (Bx.alloc (Bx.alloc (Bx.new w #[(.slice At1 t.atoms.length ct1)] 25) (by simp) #[.int .i64 a.kind, .int .i64 a.k, (.slice Aa1 a.x.monos.length ca1), (.slice Aa2 a.y.monos.length ca2)] 30) (by first | (simp; done) | (simp; omega)) #[.slice none 0 0] 25); simpa using this)
  have hFt_0 : ∀ oo, ((((w.alloc (Obj.cells #[(.slice At1 t.atoms.length ct1)] 25)).alloc (Obj.cells #[.int .i64 a.kind, .int .i64 a.k, (.slice Aa1 a.x.monos.length ca1), (.slice Aa2 a.y.monos.length ca2)] 30)).alloc (Obj.cells #[.slice none 0 0] 25))).frozen? ⟨w.heap.size, oo, none⟩ = false := (fz_alloc (fz_alloc (fz_new w #[(.slice At1 t.atoms.length ct1)] 25 (by first | rfl | (simp; done))) (by first | (simp; done) | (simp; omega)) (Obj.cells #[.int .i64 a.kind, .int .i64 a.k, (.slice Aa1 a.x.monos.length ca1), (.slice Aa2 a.y.monos.length ca2)] 30)) (by first | (simp; done) | (simp; omega)) (Obj.cells #[.slice none 0 0] 25))
  have hBa_0 : Bx (((w.alloc (Obj.cells #[(.slice At1 t.atoms.length ct1)] 25)).alloc (Obj.cells #[.int .i64 a.kind, .int .i64 a.k, (.slice Aa1 a.x.monos.length ca1), (.slice Aa2 a.y.monos.length ca2)] 30)).alloc (Obj.cells #[.slice none 0 0] 25)) (w.heap.size + 1) [.int .i64 a.kind, .int .i64 a.k, (.slice Aa1 a.x.monos.length ca1), (.slice Aa2 a.y.monos.length ca2)] := (by have := (Bx.alloc (Bx.new (w.alloc (Obj.cells #[(.slice At1 t.atoms.length ct1)] 25)) #[.int .i64 a.kind, .int .i64 a.k, (.slice Aa1 a.x.monos.length ca1), (.slice Aa2 a.y.monos.length ca2)] 30) (by simp) #[.slice none 0 0] 25); simpa using this)
  have hFa_0 : ∀ oo, ((((w.alloc (Obj.cells #[(.slice At1 t.atoms.length ct1)] 25)).alloc (Obj.cells #[.int .i64 a.kind, .int .i64 a.k, (.slice Aa1 a.x.monos.length ca1), (.slice Aa2 a.y.monos.length ca2)] 30)).alloc (Obj.cells #[.slice none 0 0] 25))).frozen? ⟨w.heap.size + 1, oo, none⟩ = false := (fz_alloc (fz_new (w.alloc (Obj.cells #[(.slice At1 t.atoms.length ct1)] 25)) #[.int .i64 a.kind, .int .i64 a.k, (.slice Aa1 a.x.monos.length ca1), (.slice Aa2 a.y.monos.length ca2)] 30 (by first | rfl | (simp; done))) (by first | (simp; done) | (simp; omega)) (Obj.cells #[.slice none 0 0] 25))
  have hBres_0 : Bx (((w.alloc (Obj.cells #[(.slice At1 t.atoms.length ct1)] 25)).alloc (Obj.cells #[.int .i64 a.kind, .int .i64 a.k, (.slice Aa1 a.x.monos.length ca1), (.slice Aa2 a.y.monos.length ca2)] 30)).alloc (Obj.cells #[.slice none 0 0] 25)) (w.heap.size + 1 + 1) [.slice none 0 0] := (by have := (Bx.new ((w.alloc (Obj.cells #[(.slice At1 t.atoms.length ct1)] 25)).alloc (Obj.cells #[.int .i64 a.kind, .int .i64 a.k, (.slice Aa1 a.x.monos.length ca1), (.slice Aa2 a.y.monos.length ca2)] 30)) #[.slice none 0 0] 25); simpa using this)
  have hFres_0 : ∀ oo, ((((w.alloc (Obj.cells #[(.slice At1 t.atoms.length ct1)] 25)).alloc (Obj.cells #[.int .i64 a.kind, .int .i64 a.k, (.slice Aa1 a.x.monos.length ca1), (.slice Aa2 a.y.monos.length ca2)] 30)).alloc (Obj.cells #[.slice none 0 0] 25))).frozen? ⟨w.heap.size + 1 + 1, oo, none⟩ = false := (fz_new ((w.alloc (Obj.cells #[(.slice At1 t.atoms.length ct1)] 25)).alloc (Obj.cells #[.int .i64 a.kind, .int .i64 a.k, (.slice Aa1 a.x.monos.length ca1), (.slice Aa2 a.y.monos.length ca2)] 30)) #[.slice none 0 0] 25 (by first | rfl | (simp; done)))
  generalize (((w.alloc (Obj.cells #[(.slice At1 t.atoms.length ct1)] 25)).alloc (Obj.cells #[.int .i64 a.kind, .int .i64 a.k, (.slice Aa1 a.x.monos.length ca1), (.slice Aa2 a.y.monos.length ca2)] 30)).alloc (Obj.cells #[.slice none 0 0] 25)) = w0 at *
  have yt : w.heap.size < w0.heap.size := by omega
  have xt0 : w0.cell? ⟨w.heap.size, 0, none⟩ = some ((.slice At1 t.atoms.length ct1)) := hBt_0 0 _ rfl
  have ft := hFt_0
  have ya : w.heap.size + 1 < w0.heap.size := by omega
  have xa0 := hBa_0 0 _ rfl
  have xa1 := hBa_0 1 _ rfl
  have xa2 := hBa_0 2 _ rfl
  have xa3 := hBa_0 3 _ rfl
  have fa := hFa_0
  have yres : w.heap.size + 1 + 1 < w0.heap.size := by omega
  have xres0 : w0.cell? ⟨w.heap.size + 1 + 1, 0, none⟩ = some (.slice none 0 0) := hBres_0 0 _ rfl
  have fres := hFres_0
  go_wp2_with fail
  refine (specTabOk_any t _ _ (ht1.ext (Ext.trans he0 Ext.auto))).mono ?_
  rintro e w1 ⟨rfl, hy⟩
  simp only [q0]
  clear xt0 yt
  clear ft
  clear xa0 xa1 xa2 xa3 ya
  clear fa
  clear xres0 yres
  clear fres
  have hx1 : Ext w0 w1 := Ext.trans (Ext.auto) hy
  have hs1 := hx1.size
  have he1 : Ext w w1 := he0.trans hx1
  have hBt_1 : Bx w1 (w.heap.size) [(.slice At1 t.atoms.length ct1)] := hx1.bx hBt_0 (by omega)
  have hFt_1 : ∀ oo, w1.frozen? ⟨w.heap.size, oo, none⟩ = false := fun oo => (hx1.frozen (by omega)).trans (hFt_0 oo)
  have hBa_1 : Bx w1 (w.heap.size + 1) [.int .i64 a.kind, .int .i64 a.k, (.slice Aa1 a.x.monos.length ca1), (.slice Aa2 a.y.monos.length ca2)] := hx1.bx hBa_0 (by omega)
  have hFa_1 : ∀ oo, w1.frozen? ⟨w.heap.size + 1, oo, none⟩ = false := fun oo => (hx1.frozen (by omega)).trans (hFa_0 oo)
  have hBres_1 : Bx w1 (w.heap.size + 1 + 1) [.slice none 0 0] := hx1.bx hBres_0 (by omega)
  have hFres_1 : ∀ oo, w1.frozen? ⟨w.heap.size + 1 + 1, oo, none⟩ = false := fun oo => (hx1.frozen (by omega)).trans (hFres_0 oo)
  clear hBt_0 hFt_0 hBa_0 hFa_0 hBres_0 hFres_0
  clear hy
  have HQ := hide q0
  clear q0
  have yt : w.heap.size < w1.heap.size := by omega
  have xt0 : w1.cell? ⟨w.heap.size, 0, none⟩ = some ((.slice At1 t.atoms.length ct1)) := hBt_1 0 _ rfl
  have ft := hFt_1
  have ya : w.heap.size + 1 < w1.heap.size := by omega
  have xa0 := hBa_1 0 _ rfl
  have xa1 := hBa_1 1 _ rfl
  have xa2 := hBa_1 2 _ rfl
  have xa3 := hBa_1 3 _ rfl
  have fa := hFa_1
  have yres : w.heap.size + 1 + 1 < w1.heap.size := by omega
  have xres0 : w1.cell? ⟨w.heap.size + 1 + 1, 0, none⟩ = some (.slice none 0 0) := hBres_1 0 _ rfl
  have fres := hFres_1
  go_upto_region 3 with fail
  have hS : ∀ w', Ext w1 w' → ∀ bb oo, bb < w1.heap.size → w'.cell? ⟨bb, oo, none⟩ = w1.cell? ⟨bb, oo, none⟩ := fun w' hx bb oo hb => hx.cell hb
  refine wp_region_plan (fun w' => Ext w1 w') 6 (.float 0 (.float 2 (.chain 1 (.chain 3 (.float 4 (.float 5 (.tail 6))))))) (by kernel_rfl) (by kernel_rfl) (Ext.refl _).drew ?_
  iterate 2 ((refine Plan.float_step (v := ?_) rfl (by rfl) (fun _ _ _ h => h) (fun w' hSw => ?_) ?_; rotate_left; · (go_simp; try with_reducible rfl)); (try simp only [Act.put, List.setIfInBounds_toArray, List.set_cons_zero, List.set_cons_succ]))
  refine Plan.chain_step rfl (fun K hK => ?_)
  go_simp
  refine (l5Copy_any t _ _ (ht1.ext (Ext.trans he1 Ext.auto)) hnt).mono ?_
  rintro e wq1 ⟨v1, Fs, xs, rfl, hA_⟩
  have hq1 : Ext w1 wq1 := Ext.trans Ext.auto hA_.ext
  refine hK.out _ _ hq1 ?_
  clear hK
  (try simp only [Act.put, List.setIfInBounds_toArray, List.set_cons_zero, List.set_cons_succ])
  refine Plan.chain_step rfl (fun K hK => ?_)
  go_simp
  refine (l5Put_any t a _ _ _ Fs xs _ _ hA_ (ha1.ext (Ext.trans he1 hq1)) (ha2.ext (Ext.trans he1 hq1)) hka HQ.out hna).mono ?_
  rintro e wq2 ⟨v2, Fs2, xs2, rfl, hB_⟩
  have hq2 : Ext w1 wq2 := Ext.trans Ext.auto hB_.ext
  have hsq := hq2.size
  obtain ⟨F, hO, hF_⟩ := hB_.done
  have hF : Fr w1 wq2 F := hF_.mk1 (by simp) (Nat.le_refl _)
  have hRm := (Room.of_app hB_).down (lo' := w.heap.size) (by simp; omega)
  clear hF_ hB_ hA_
  obtain ⟨A9, c9, rfl, -, -⟩ := hO.sl.form
  refine hK.out _ _ hq2 ?_
  clear hK
  (try simp only [Act.put, List.setIfInBounds_toArray, List.set_cons_zero, List.set_cons_succ])
  iterate 2 ((refine Plan.float_step (v := ?_) rfl (by rfl) (fun _ _ _ h => h) (fun w' hSw => ?_) ?_; rotate_left; · (go_simp; try with_reducible rfl)); (try simp only [Act.put, List.setIfInBounds_toArray, List.set_cons_zero, List.set_cons_succ]))
  refine Plan.tail_step ?_
  simp only [List.drop_succ_cons, List.drop_zero]
  clear hS
  have yR : w.heap.size + 1 + 1 < wq2.heap.size := by omega
  have xR0 : wq2.cell? ⟨w.heap.size + 1 + 1, 0, none⟩ = some (.slice none 0 0) := (hq2.cell yres).trans xres0
  have fR : ∀ oo, wq2.frozen? ⟨w.heap.size + 1 + 1, oo, none⟩ = false := fun oo => (hq2.frozen yres).trans (fres oo)
  clear xt0 yt
  clear ft
  clear xa0 xa1 xa2 xa3 ya
  clear fa
  clear xres0 yres
  clear fres
  go_wp2
  refine bodyPost_ret (v := .tuple #[.agg #[.slice A9 (tabPut t a).atoms.length c9], .int .i64 (tabPutAt t a)]) (by simp [results, Try.results8, go_sem, xR0]) rfl ⟨_, F, rfl, OwnSl.stay hO (fun z hz => by
      have q := hF.2 z hz; have q1 := q.1
      repeat (first | rw [heap_set _ _ _ _ (by show _ ≠ z; omega)] | rw [heap_set _ _ _ _ (by simp; omega)])), hF.mk1 (by omega) (by simp), Ext.hold (he1.trans hq2), Room.hold hRm⟩

end Go.Proofs.Ytmbclopkopfngaa
