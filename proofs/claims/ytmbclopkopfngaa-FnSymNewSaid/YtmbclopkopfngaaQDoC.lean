/-
  DoC
-/
import Derived.Test.YtmbclopkopfngaaQDoB
import Derived.Test.YtmbclopkopfngaaQPutS
import Derived.Test.YtmbclopkopfngaaQRead
import Derived.Test.YtmbclopkopfngaaQNewP
import Derived.Test.YtmbclopkopfngaaQMachLib
import Derived.Deep.DeepCutAuto
namespace Go.Proofs.Ytmbclopkopfngaa
open Go.RowKit

set_option linter.unusedVariables false
set_option linter.unusedSimpArgs false
set_option maxRecDepth 100000

theorem do_put {t : TabTab} {a : TabAtom} (h : tabOkB t = true) (hl : t.atoms.length < 200) (ha : atomOkB a (t.atoms.length : Int) = true) :
    0 ≤ tabPutAt t a ∧ tabPutAt t a ≤ 199 ∧ tabOkB (tabPut t a) = true ∧ t.atoms.length ≤ (tabPut t a).atoms.length ∧ (tabPut t a).atoms.length ≤ t.atoms.length + 1 := by
  rcases findT_cases t.atoms a with hf | ⟨k, hk, hf, -, -⟩
  · have hT : tabPut t a = ⟨t.atoms ++ [a]⟩ := by unfold tabPut; rw [h, ha, hf]; simp [hl]
    have hN : tabPutAt t a = (t.atoms.length : Int) := by unfold tabPutAt; rw [h, ha, hf]; simp [hl]
    have hok : tabOkB ⟨t.atoms ++ [a]⟩ = true := tab_snoc h ha hf hl
    rw [hT, hN]
    exact ⟨by omega, by omega, hok, by simp, by simp⟩
  · have hT : tabPut t a = t := by unfold tabPut; rw [h, ha, hf]; simp
    have hN : tabPutAt t a = (k : Int) := by
      unfold tabPutAt
      rw [if_pos h, if_pos ha, hf, if_neg (by omega)]
    rw [hT, hN]
    exact ⟨by omega, by omega, h, by omega, by omega⟩
theorem atom_blk {a : TabAtom} {n : Int} (h : atomOkB a n = true) : Bulk.blk a ≤ 120 := by
  have hb : Bulk.blk a = Bulk.blk a.x.monos + Bulk.blk a.y.monos := rfl
  have hbare : bareB a = true → Bulk.blk a ≤ 120 := fun q => by
    unfold bareB at q
    simp only [Bool.and_eq_true, decide_eq_true_eq] at q
    have e1 := List.eq_nil_of_length_eq_zero q.1
    have e2 := List.eq_nil_of_length_eq_zero q.2
    rw [hb, e1, e2]
    decide
  unfold atomOkB at h
  split at h
  · simp only [Bool.and_eq_true] at h; exact hbare h.2
  · split at h
    · simp only [Bool.and_eq_true] at h; exact hbare h.2
    · split at h
      · simp only [Bool.and_eq_true] at h
        have h1 := ok_blk h.1.1.1.2
        have h2 := ok_blk h.1.1.2
        omega
      · cases h
theorem tab_blk {t : TabTab} (h : tabOkB t = true) : t.atoms.length ≤ 200 ∧ Bulk.blk t ≤ 30000 := by
  unfold tabOkB at h
  simp only [Bool.and_eq_true, decide_eq_true_eq] at h
  refine ⟨h.1, ?_⟩
  have ha := allB_iff.1 h.2
  have hs : ∀ k, k ≤ t.atoms.length → bsum t.atoms k ≤ 120 * k := by
    intro k
    induction k with
    | zero => intro _; rw [bsum_zero]; omega
    | succ k ih =>
      intro hk
      rw [bsum_succ t.atoms k (by omega)]
      have h1 := ih (by omega)
      have h2 := ha k (by omega)
      unfold atomAtOk at h2
      rw [gA_at _ k (by omega)] at h2
      simp only [Bool.and_eq_true] at h2
      have h3 := atom_blk h2.1
      omega
  have := hs t.atoms.length (Nat.le_refl _)
  have h4 := bsum_all t.atoms
  show Bulk.blk t.atoms ≤ 30000
  omega

set_option maxHeartbeats 32000000 in
theorem l5Do_any (t : TabTab) (op : Int) (p q : TrmPoly) (vt1 vp1 vq1 : Value) (Fs : List (List Nat)) (xs : List Value) (wb w : World) (hA : App wb w 30 vt1 t.atoms Fs xs) (hp1 : Sl w (Old w) vp1 p.monos) (hq1 : Sl w (Old w) vq1 q.monos) (h1 : 1 ≤ op) (h5 : op ≤ 5) (hok : tabOkB t = true) (hl2 : t.atoms.length < 200) (hkp : polOkB p = true) (hkq : polOkB q = true) (hup : polUnderB p (t.atoms.length : Int) = true) (huq : polUnderB q (t.atoms.length : Int) = true) :
    Calls Try.prog 95 #[.agg #[vt1], .int .i64 op, .agg #[vp1], .agg #[vq1]] w fun e w' => ∃ (t' : TabTab) (r : Value) (Fs' : List (List Nat)) (xs' : List Value) (A1 : Option Addr) (n1 c1 : Nat), e = .returned (.tuple #[.agg #[r], .agg #[.slice A1 n1 c1]]) ∧ App wb w' 30 r t'.atoms Fs' xs' ∧ tabOkB t' = true ∧ t.atoms.length ≤ t'.atoms.length ∧ t'.atoms.length ≤ t.atoms.length + 1 := by
  obtain ⟨F0, hO0, hF0⟩ := hA.done
  have ht1 : Sl w (Old w) vt1 t.atoms := hO0.sl.keep (fun _ _ _ => rfl) (fun b hb => (hF0.2 b hb).2)
  clear hO0 hF0
  have hrow : ∀ q, vt1.ownBlock = some q → wb.heap.size ≤ q ∧ q < w.heap.size := hA.row.lt
  have hfl : ∀ z, z ∈ Fs.flatten → z < w.heap.size := fun z hz => (hA.fr.2 z hz).2
  have hwb := hA.ext.size
  have HPK := hide hkp
  have HQK := hide hkq
  have HPU := hide hup
  have HQU := hide huq
  have HOK := hide hok
  clear hup huq hok
  obtain ⟨At1, ct1, rfl, hlt1, hmt1⟩ := ht1.form
  obtain ⟨Ap1, cp1, rfl, hlp1, hmp1⟩ := hp1.form
  obtain ⟨Aq1, cq1, rfl, hlq1, hmq1⟩ := hq1.form
  unfold maxLen at hmt1 hmp1 hmq1
  go_enter Try.func95, Try.ntmps95
  go_upto_region 1 with fail
  have he0 : Ext w (((((w.alloc (Obj.cells #[(.slice At1 t.atoms.length ct1)] 25)).alloc (Obj.cells #[(.slice Ap1 p.monos.length cp1)] 28)).alloc (Obj.cells #[(.slice Aq1 q.monos.length cq1)] 28)).alloc (Obj.cells #[.slice none 0 0] 25)).alloc (Obj.cells #[.slice none 0 0] 28)) := (Ext.auto)
  have hs0 : w.heap.size + 5 ≤ ((((((w.alloc (Obj.cells #[(.slice At1 t.atoms.length ct1)] 25)).alloc (Obj.cells #[(.slice Ap1 p.monos.length cp1)] 28)).alloc (Obj.cells #[(.slice Aq1 q.monos.length cq1)] 28)).alloc (Obj.cells #[.slice none 0 0] 25)).alloc (Obj.cells #[.slice none 0 0] 28))).heap.size := by simp
  have hq0 := hide (show ((((((w.alloc (Obj.cells #[(.slice At1 t.atoms.length ct1)] 25)).alloc (Obj.cells #[(.slice Ap1 p.monos.length cp1)] 28)).alloc (Obj.cells #[(.slice Aq1 q.monos.length cq1)] 28)).alloc (Obj.cells #[.slice none 0 0] 25)).alloc (Obj.cells #[.slice none 0 0] 28))).heap.size = w.heap.size + 5 by simp)
  have hBt_0 : Bx (((((w.alloc (Obj.cells #[(.slice At1 t.atoms.length ct1)] 25)).alloc (Obj.cells #[(.slice Ap1 p.monos.length cp1)] 28)).alloc (Obj.cells #[(.slice Aq1 q.monos.length cq1)] 28)).alloc (Obj.cells #[.slice none 0 0] 25)).alloc (Obj.cells #[.slice none 0 0] 28)) (w.heap.size) [(.slice At1 t.atoms.length ct1)] := (by have := (Bx.alloc (Bx.alloc (Bx.alloc (Bx.alloc (Bx.new w #[(.slice At1 t.atoms.length ct1)] 25) (by simp) #[(.slice Ap1 p.monos.length cp1)] 28) (by first | (simp; done) | (simp; omega)) #[(.slice Aq1 q.monos.length cq1)] 28) (by first | (simp; done) | (simp; omega)) #[.slice none 0 0] 25) (by first | (simp; done) | (simp; omega)) #[.slice none 0 0] 28); simpa using this)
  have hFt_0 : ∀ oo, ((((((w.alloc (Obj.cells #[(.slice At1 t.atoms.length ct1)] 25)).alloc (Obj.cells #[(.slice Ap1 p.monos.length cp1)] 28)).alloc (Obj.cells #[(.slice Aq1 q.monos.length cq1)] 28)).alloc (Obj.cells #[.slice none 0 0] 25)).alloc (Obj.cells #[.slice none 0 0] 28))).frozen? ⟨w.heap.size, oo, none⟩ = false := (fz_alloc (fz_alloc (fz_alloc (fz_alloc (fz_new w #[(.slice At1 t.atoms.length ct1)] 25 (by first | rfl | (simp; done))) (by first | (simp; done) | (simp; omega)) (Obj.cells #[(.slice Ap1 p.monos.length cp1)] 28)) (by first | (simp; done) | (simp; omega)) (Obj.cells #[(.slice Aq1 q.monos.length cq1)] 28)) (by first | (simp; done) | (simp; omega)) (Obj.cells #[.slice none 0 0] 25)) (by first | (simp; done) | (simp; omega)) (Obj.cells #[.slice none 0 0] 28))
  have hBp_0 : Bx (((((w.alloc (Obj.cells #[(.slice At1 t.atoms.length ct1)] 25)).alloc (Obj.cells #[(.slice Ap1 p.monos.length cp1)] 28)).alloc (Obj.cells #[(.slice Aq1 q.monos.length cq1)] 28)).alloc (Obj.cells #[.slice none 0 0] 25)).alloc (Obj.cells #[.slice none 0 0] 28)) (w.heap.size + 1) [(.slice Ap1 p.monos.length cp1)] := (by have := (Bx.alloc (Bx.alloc (Bx.alloc (Bx.new (w.alloc (Obj.cells #[(.slice At1 t.atoms.length ct1)] 25)) #[(.slice Ap1 p.monos.length cp1)] 28) (by simp) #[(.slice Aq1 q.monos.length cq1)] 28) (by first | (simp; done) | (simp; omega)) #[.slice none 0 0] 25) (by first | (simp; done) | (simp; omega)) #[.slice none 0 0] 28); simpa using this)
  have hFp_0 : ∀ oo, ((((((w.alloc (Obj.cells #[(.slice At1 t.atoms.length ct1)] 25)).alloc (Obj.cells #[(.slice Ap1 p.monos.length cp1)] 28)).alloc (Obj.cells #[(.slice Aq1 q.monos.length cq1)] 28)).alloc (Obj.cells #[.slice none 0 0] 25)).alloc (Obj.cells #[.slice none 0 0] 28))).frozen? ⟨w.heap.size + 1, oo, none⟩ = false := (fz_alloc (fz_alloc (fz_alloc (fz_new (w.alloc (Obj.cells #[(.slice At1 t.atoms.length ct1)] 25)) #[(.slice Ap1 p.monos.length cp1)] 28 (by first | rfl | (simp; done))) (by first | (simp; done) | (simp; omega)) (Obj.cells #[(.slice Aq1 q.monos.length cq1)] 28)) (by first | (simp; done) | (simp; omega)) (Obj.cells #[.slice none 0 0] 25)) (by first | (simp; done) | (simp; omega)) (Obj.cells #[.slice none 0 0] 28))
  have hBq_0 : Bx (((((w.alloc (Obj.cells #[(.slice At1 t.atoms.length ct1)] 25)).alloc (Obj.cells #[(.slice Ap1 p.monos.length cp1)] 28)).alloc (Obj.cells #[(.slice Aq1 q.monos.length cq1)] 28)).alloc (Obj.cells #[.slice none 0 0] 25)).alloc (Obj.cells #[.slice none 0 0] 28)) (w.heap.size + 1 + 1) [(.slice Aq1 q.monos.length cq1)] := (by have := (Bx.alloc (Bx.alloc (Bx.new ((w.alloc (Obj.cells #[(.slice At1 t.atoms.length ct1)] 25)).alloc (Obj.cells #[(.slice Ap1 p.monos.length cp1)] 28)) #[(.slice Aq1 q.monos.length cq1)] 28) (by simp) #[.slice none 0 0] 25) (by first | (simp; done) | (simp; omega)) #[.slice none 0 0] 28); simpa using this)
  have hFq_0 : ∀ oo, ((((((w.alloc (Obj.cells #[(.slice At1 t.atoms.length ct1)] 25)).alloc (Obj.cells #[(.slice Ap1 p.monos.length cp1)] 28)).alloc (Obj.cells #[(.slice Aq1 q.monos.length cq1)] 28)).alloc (Obj.cells #[.slice none 0 0] 25)).alloc (Obj.cells #[.slice none 0 0] 28))).frozen? ⟨w.heap.size + 1 + 1, oo, none⟩ = false := (fz_alloc (fz_alloc (fz_new ((w.alloc (Obj.cells #[(.slice At1 t.atoms.length ct1)] 25)).alloc (Obj.cells #[(.slice Ap1 p.monos.length cp1)] 28)) #[(.slice Aq1 q.monos.length cq1)] 28 (by first | rfl | (simp; done))) (by first | (simp; done) | (simp; omega)) (Obj.cells #[.slice none 0 0] 25)) (by first | (simp; done) | (simp; omega)) (Obj.cells #[.slice none 0 0] 28))
  have hBres1_0 : Bx (((((w.alloc (Obj.cells #[(.slice At1 t.atoms.length ct1)] 25)).alloc (Obj.cells #[(.slice Ap1 p.monos.length cp1)] 28)).alloc (Obj.cells #[(.slice Aq1 q.monos.length cq1)] 28)).alloc (Obj.cells #[.slice none 0 0] 25)).alloc (Obj.cells #[.slice none 0 0] 28)) (w.heap.size + 1 + 1 + 1) [.slice none 0 0] := (by have := (Bx.alloc (Bx.new (((w.alloc (Obj.cells #[(.slice At1 t.atoms.length ct1)] 25)).alloc (Obj.cells #[(.slice Ap1 p.monos.length cp1)] 28)).alloc (Obj.cells #[(.slice Aq1 q.monos.length cq1)] 28)) #[.slice none 0 0] 25) (by simp) #[.slice none 0 0] 28); simpa using this)
  have hFres1_0 : ∀ oo, ((((((w.alloc (Obj.cells #[(.slice At1 t.atoms.length ct1)] 25)).alloc (Obj.cells #[(.slice Ap1 p.monos.length cp1)] 28)).alloc (Obj.cells #[(.slice Aq1 q.monos.length cq1)] 28)).alloc (Obj.cells #[.slice none 0 0] 25)).alloc (Obj.cells #[.slice none 0 0] 28))).frozen? ⟨w.heap.size + 1 + 1 + 1, oo, none⟩ = false := (fz_alloc (fz_new (((w.alloc (Obj.cells #[(.slice At1 t.atoms.length ct1)] 25)).alloc (Obj.cells #[(.slice Ap1 p.monos.length cp1)] 28)).alloc (Obj.cells #[(.slice Aq1 q.monos.length cq1)] 28)) #[.slice none 0 0] 25 (by first | rfl | (simp; done))) (by first | (simp; done) | (simp; omega)) (Obj.cells #[.slice none 0 0] 28))
  have hBres2_0 : Bx (((((w.alloc (Obj.cells #[(.slice At1 t.atoms.length ct1)] 25)).alloc (Obj.cells #[(.slice Ap1 p.monos.length cp1)] 28)).alloc (Obj.cells #[(.slice Aq1 q.monos.length cq1)] 28)).alloc (Obj.cells #[.slice none 0 0] 25)).alloc (Obj.cells #[.slice none 0 0] 28)) (w.heap.size + 1 + 1 + 1 + 1) [.slice none 0 0] := (by have := (Bx.new ((((w.alloc (Obj.cells #[(.slice At1 t.atoms.length ct1)] 25)).alloc (Obj.cells #[(.slice Ap1 p.monos.length cp1)] 28)).alloc (Obj.cells #[(.slice Aq1 q.monos.length cq1)] 28)).alloc (Obj.cells #[.slice none 0 0] 25)) #[.slice none 0 0] 28); simpa using this)
  have hFres2_0 : ∀ oo, ((((((w.alloc (Obj.cells #[(.slice At1 t.atoms.length ct1)] 25)).alloc (Obj.cells #[(.slice Ap1 p.monos.length cp1)] 28)).alloc (Obj.cells #[(.slice Aq1 q.monos.length cq1)] 28)).alloc (Obj.cells #[.slice none 0 0] 25)).alloc (Obj.cells #[.slice none 0 0] 28))).frozen? ⟨w.heap.size + 1 + 1 + 1 + 1, oo, none⟩ = false := (fz_new ((((w.alloc (Obj.cells #[(.slice At1 t.atoms.length ct1)] 25)).alloc (Obj.cells #[(.slice Ap1 p.monos.length cp1)] 28)).alloc (Obj.cells #[(.slice Aq1 q.monos.length cq1)] 28)).alloc (Obj.cells #[.slice none 0 0] 25)) #[.slice none 0 0] 28 (by first | rfl | (simp; done)))
  generalize (((((w.alloc (Obj.cells #[(.slice At1 t.atoms.length ct1)] 25)).alloc (Obj.cells #[(.slice Ap1 p.monos.length cp1)] 28)).alloc (Obj.cells #[(.slice Aq1 q.monos.length cq1)] 28)).alloc (Obj.cells #[.slice none 0 0] 25)).alloc (Obj.cells #[.slice none 0 0] 28)) = w0 at *
  have hBtK := hBt_0
  have hFtK := hFt_0
  have hBpK := hBp_0
  have hFpK := hFp_0
  have hBqK := hBq_0
  have hFqK := hFq_0
  have hBres1K := hBres1_0
  have hFres1K := hFres1_0
  have hBres2K := hBres2_0
  have hFres2K := hFres2_0
  have yp : w.heap.size + 1 < w0.heap.size := by omega
  have xp0 : w0.cell? ⟨w.heap.size + 1, 0, none⟩ = some ((.slice Ap1 p.monos.length cp1)) := hBp_0 0 _ rfl
  have fp := hFp_0
  have yq : w.heap.size + 1 + 1 < w0.heap.size := by omega
  have xq0 : w0.cell? ⟨w.heap.size + 1 + 1, 0, none⟩ = some ((.slice Aq1 q.monos.length cq1)) := hBq_0 0 _ rfl
  have fq := hFq_0
  go_wp2_with fail
  refine (l5Ring_any op p q _ _ _ (hp1.ext (Ext.trans he0 Ext.auto)) (hq1.ext (Ext.trans he0 Ext.auto)) h1 h5).mono ?_
  rintro e w1 ⟨⟨A1, n1, c1, ok, rfl⟩, hy⟩
  clear xp0 yp
  clear fp
  clear xq0 yq
  clear fq
  have hx1 : Ext w0 w1 := Ext.trans (Ext.auto) hy
  have hs1 := hx1.size
  have he1 : Ext w w1 := he0.trans hx1
  have hBt_1 : Bx w1 (w.heap.size) [(.slice At1 t.atoms.length ct1)] := hx1.bx hBt_0 (by omega)
  have hFt_1 : ∀ oo, w1.frozen? ⟨w.heap.size, oo, none⟩ = false := fun oo => (hx1.frozen (by omega)).trans (hFt_0 oo)
  have hBp_1 : Bx w1 (w.heap.size + 1) [(.slice Ap1 p.monos.length cp1)] := hx1.bx hBp_0 (by omega)
  have hFp_1 : ∀ oo, w1.frozen? ⟨w.heap.size + 1, oo, none⟩ = false := fun oo => (hx1.frozen (by omega)).trans (hFp_0 oo)
  have hBq_1 : Bx w1 (w.heap.size + 1 + 1) [(.slice Aq1 q.monos.length cq1)] := hx1.bx hBq_0 (by omega)
  have hFq_1 : ∀ oo, w1.frozen? ⟨w.heap.size + 1 + 1, oo, none⟩ = false := fun oo => (hx1.frozen (by omega)).trans (hFq_0 oo)
  have hBres1_1 : Bx w1 (w.heap.size + 1 + 1 + 1) [.slice none 0 0] := hx1.bx hBres1_0 (by omega)
  have hFres1_1 : ∀ oo, w1.frozen? ⟨w.heap.size + 1 + 1 + 1, oo, none⟩ = false := fun oo => (hx1.frozen (by omega)).trans (hFres1_0 oo)
  have hBres2_1 : Bx w1 (w.heap.size + 1 + 1 + 1 + 1) [.slice none 0 0] := hx1.bx hBres2_0 (by omega)
  have hFres2_1 : ∀ oo, w1.frozen? ⟨w.heap.size + 1 + 1 + 1 + 1, oo, none⟩ = false := fun oo => (hx1.frozen (by omega)).trans (hFres2_0 oo)
  clear hBt_0 hFt_0 hBp_0 hFp_0 hBq_0 hFq_0 hBres1_0 hFres1_0 hBres2_0 hFres2_0
  clear hy
  go_upto_region 2 with fail
  have he2 : Ext w (w1.alloc (.cells #[.slice A1 n1 c1] 28)) := Ext.hold he1
  have hx2 : Ext w1 (w1.alloc (.cells #[.slice A1 n1 c1] 28)) := Ext.auto
  have hs2 : w1.heap.size + 1 ≤ ((w1.alloc (.cells #[.slice A1 n1 c1] 28))).heap.size := by simp
  have hBt_2 : Bx (w1.alloc (.cells #[.slice A1 n1 c1] 28)) (w.heap.size) [(.slice At1 t.atoms.length ct1)] := Bx.hold hBt_1
  have hFt_2 : ∀ oo, (w1.alloc (.cells #[.slice A1 n1 c1] 28)).frozen? ⟨w.heap.size, oo, none⟩ = false := fz_hold hFt_1
  have hBp_2 : Bx (w1.alloc (.cells #[.slice A1 n1 c1] 28)) (w.heap.size + 1) [(.slice Ap1 p.monos.length cp1)] := Bx.hold hBp_1
  have hFp_2 : ∀ oo, (w1.alloc (.cells #[.slice A1 n1 c1] 28)).frozen? ⟨w.heap.size + 1, oo, none⟩ = false := fz_hold hFp_1
  have hBq_2 : Bx (w1.alloc (.cells #[.slice A1 n1 c1] 28)) (w.heap.size + 1 + 1) [(.slice Aq1 q.monos.length cq1)] := Bx.hold hBq_1
  have hFq_2 : ∀ oo, (w1.alloc (.cells #[.slice A1 n1 c1] 28)).frozen? ⟨w.heap.size + 1 + 1, oo, none⟩ = false := fz_hold hFq_1
  have hBres1_2 : Bx (w1.alloc (.cells #[.slice A1 n1 c1] 28)) (w.heap.size + 1 + 1 + 1) [.slice none 0 0] := Bx.hold hBres1_1
  have hFres1_2 : ∀ oo, (w1.alloc (.cells #[.slice A1 n1 c1] 28)).frozen? ⟨w.heap.size + 1 + 1 + 1, oo, none⟩ = false := fz_hold hFres1_1
  have hBres2_2 : Bx (w1.alloc (.cells #[.slice A1 n1 c1] 28)) (w.heap.size + 1 + 1 + 1 + 1) [.slice none 0 0] := Bx.hold hBres2_1
  have hFres2_2 : ∀ oo, (w1.alloc (.cells #[.slice A1 n1 c1] 28)).frozen? ⟨w.heap.size + 1 + 1 + 1 + 1, oo, none⟩ = false := fz_hold hFres2_1
  have hBg_2 : Bx (w1.alloc (.cells #[.slice A1 n1 c1] 28)) (w1.heap.size) [.slice A1 n1 c1] := Bx.new w1 #[.slice A1 n1 c1] 28
  have hFg_2 : ∀ oo, (w1.alloc (.cells #[.slice A1 n1 c1] 28)).frozen? ⟨w1.heap.size, oo, none⟩ = false := fz_new w1 #[.slice A1 n1 c1] 28 rfl
  generalize (w1.alloc (.cells #[.slice A1 n1 c1] 28)) = w2 at *
  clear hBt_1 hFt_1 hBp_1 hFp_1 hBq_1 hFq_1 hBres1_1 hFres1_1 hBres2_1 hFres2_1
  have hxK : Ext w0 w2 := (Ext.trans hx1 hx2)
  go_cut [27] (fun v wx => v = .bool (op == 4 || op == 5) ∧ w2 = wx)
  · cases h4 : (op == 4) <;> cases h6 : (op == 5)
    all_goals
      go_wp2_with fail
      go_meet
      exact ⟨by simp [h4, h6], rfl⟩
  obtain ⟨rfl, hwc⟩ := hcut
  subst hwc
  go_upto_if 27 with fail
  go_cut [11] (fun v wx => ∃ (A1 : Option Addr) (n1 c1 : Nat) (ok : Bool), v = .bool ok ∧ Ext w0 wx ∧ w2.heap.size ≤ wx.heap.size ∧ Bx wx (w1.heap.size) [.slice A1 n1 c1] ∧ (∀ oo, wx.frozen? ⟨w1.heap.size, oo, none⟩ = false))
  · 
    cases hb : (op == 4 || op == 5)
    · go_wp2_with fail
      go_meet
      exact ⟨_, _, _, _, rfl, hxK, Nat.le_refl _, hBg_2, hFg_2⟩
    · 
      have hop : op = 4 ∨ op = 5 := by simpa using hb
      have HOP := hide hop
      clear hop
      have yp : w.heap.size + 1 < w2.heap.size := by omega
      have xp0 : w2.cell? ⟨w.heap.size + 1, 0, none⟩ = some ((.slice Ap1 p.monos.length cp1)) := hBp_2 0 _ rfl
      have fp := hFp_2
      have yq : w.heap.size + 1 + 1 < w2.heap.size := by omega
      have xq0 : w2.cell? ⟨w.heap.size + 1 + 1, 0, none⟩ = some ((.slice Aq1 q.monos.length cq1)) := hBq_2 0 _ rfl
      have fq := hFq_2
      go_wp2_with fail
      refine (l5Bits_any op p q _ _ _ (hp1.ext (Ext.trans he2 Ext.auto)) (hq1.ext (Ext.trans he2 Ext.auto)) HOP.out hkp hkq).mono ?_
      rintro e w3 ⟨⟨A2, n2, c2, ok2, rfl⟩, hy⟩
      clear xp0 yp
      clear fp
      clear xq0 yq
      clear fq
      have hx3 : Ext w2 w3 := Ext.trans (Ext.auto) hy
      have hs3 := hx3.size
      have he3 : Ext w w3 := he2.trans hx3
      have hBt_3 : Bx w3 (w.heap.size) [(.slice At1 t.atoms.length ct1)] := hx3.bx hBt_2 (by omega)
      have hFt_3 : ∀ oo, w3.frozen? ⟨w.heap.size, oo, none⟩ = false := fun oo => (hx3.frozen (by omega)).trans (hFt_2 oo)
      have hBp_3 : Bx w3 (w.heap.size + 1) [(.slice Ap1 p.monos.length cp1)] := hx3.bx hBp_2 (by omega)
      have hFp_3 : ∀ oo, w3.frozen? ⟨w.heap.size + 1, oo, none⟩ = false := fun oo => (hx3.frozen (by omega)).trans (hFp_2 oo)
      have hBq_3 : Bx w3 (w.heap.size + 1 + 1) [(.slice Aq1 q.monos.length cq1)] := hx3.bx hBq_2 (by omega)
      have hFq_3 : ∀ oo, w3.frozen? ⟨w.heap.size + 1 + 1, oo, none⟩ = false := fun oo => (hx3.frozen (by omega)).trans (hFq_2 oo)
      have hBres1_3 : Bx w3 (w.heap.size + 1 + 1 + 1) [.slice none 0 0] := hx3.bx hBres1_2 (by omega)
      have hFres1_3 : ∀ oo, w3.frozen? ⟨w.heap.size + 1 + 1 + 1, oo, none⟩ = false := fun oo => (hx3.frozen (by omega)).trans (hFres1_2 oo)
      have hBres2_3 : Bx w3 (w.heap.size + 1 + 1 + 1 + 1) [.slice none 0 0] := hx3.bx hBres2_2 (by omega)
      have hFres2_3 : ∀ oo, w3.frozen? ⟨w.heap.size + 1 + 1 + 1 + 1, oo, none⟩ = false := fun oo => (hx3.frozen (by omega)).trans (hFres2_2 oo)
      have hBg_3 : Bx w3 (w1.heap.size) [.slice A1 n1 c1] := hx3.bx hBg_2 (by omega)
      have hFg_3 : ∀ oo, w3.frozen? ⟨w1.heap.size, oo, none⟩ = false := fun oo => (hx3.frozen (by omega)).trans (hFg_2 oo)
      clear hBt_2 hFt_2 hBp_2 hFp_2 hBq_2 hFq_2 hBres1_2 hFres1_2 hBres2_2 hFres2_2 hBg_2 hFg_2
      clear hy
      have yg : w1.heap.size < w3.heap.size := by omega
      have xg0 : w3.cell? ⟨w1.heap.size, 0, none⟩ = some (.slice A1 n1 c1) := hBg_3 0 _ rfl
      have fg := hFg_3
      have hxL := hxK.trans hx3
      go_wp2_with fail
      go_meet
      exact ⟨A2, n2, c2, ok2, rfl, Ext.hold hxL, by simp; omega, by have := Bx.put hBg_3 (j := 0) (by simp) (.slice A2 n2 c2); simpa using this, fz_hold hFg_3⟩
  clear hxK hBt_2 hFt_2 hBp_2 hFp_2 hBq_2 hFq_2 hBres1_2 hFres1_2 hBres2_2 hFres2_2 hBg_2 hFg_2
  obtain ⟨w3, hwc⟩ : ∃ w3 : World, w3 = wc := ⟨_, rfl⟩
  subst hwc
  obtain ⟨A1, n1, c1, ok, rfl, hxK, hs3, hBg_3, hFg_3⟩ := hcut
  have he3 := he0.trans hxK
  have hBt_3 := hxK.bx hBtK (by omega)
  have hFt_3 : ∀ oo, w3.frozen? ⟨w.heap.size, oo, none⟩ = false := fun oo => (hxK.frozen (by omega)).trans (hFtK oo)
  have hBp_3 := hxK.bx hBpK (by omega)
  have hFp_3 : ∀ oo, w3.frozen? ⟨w.heap.size + 1, oo, none⟩ = false := fun oo => (hxK.frozen (by omega)).trans (hFpK oo)
  have hBq_3 := hxK.bx hBqK (by omega)
  have hFq_3 : ∀ oo, w3.frozen? ⟨w.heap.size + 1 + 1, oo, none⟩ = false := fun oo => (hxK.frozen (by omega)).trans (hFqK oo)
  have hBres1_3 := hxK.bx hBres1K (by omega)
  have hFres1_3 : ∀ oo, w3.frozen? ⟨w.heap.size + 1 + 1 + 1, oo, none⟩ = false := fun oo => (hxK.frozen (by omega)).trans (hFres1K oo)
  have hBres2_3 := hxK.bx hBres2K (by omega)
  have hFres2_3 : ∀ oo, w3.frozen? ⟨w.heap.size + 1 + 1 + 1 + 1, oo, none⟩ = false := fun oo => (hxK.frozen (by omega)).trans (hFres2K oo)
  cases ok
  rotate_left
  · 
    have yt : w.heap.size < w3.heap.size := by omega
    have xt0 : w3.cell? ⟨w.heap.size, 0, none⟩ = some ((.slice At1 t.atoms.length ct1)) := hBt_3 0 _ rfl
    have ft := hFt_3
    have yg : w1.heap.size < w3.heap.size := by omega
    have xg0 : w3.cell? ⟨w1.heap.size, 0, none⟩ = some (.slice A1 n1 c1) := hBg_3 0 _ rfl
    have fg := hFg_3
    have yres1 : w.heap.size + 1 + 1 + 1 < w3.heap.size := by omega
    have xres10 : w3.cell? ⟨w.heap.size + 1 + 1 + 1, 0, none⟩ = some (.slice none 0 0) := hBres1_3 0 _ rfl
    have fres1 := hFres1_3
    have yres2 : w.heap.size + 1 + 1 + 1 + 1 < w3.heap.size := by omega
    have xres20 : w3.cell? ⟨w.heap.size + 1 + 1 + 1 + 1, 0, none⟩ = some (.slice none 0 0) := hBres2_3 0 _ rfl
    have fres2 := hFres2_3
    go_upto_region 5 with fail
    have hSt : ∀ w', Far (w.heap.size + 1 + 1 + 1) w3 w' → ∀ oo, w'.cell? ⟨w.heap.size, oo, none⟩ = w3.cell? ⟨w.heap.size, oo, none⟩ := fun w' hx oo => hx.2 _ oo (by omega) yt
    have hSg : ∀ w', Far (w.heap.size + 1 + 1 + 1) w3 w' → ∀ oo, w'.cell? ⟨w1.heap.size, oo, none⟩ = w3.cell? ⟨w1.heap.size, oo, none⟩ := fun w' hx oo => hx.2 _ oo (by omega) yg
    refine wp_region_plan (fun w' => Far (w.heap.size + 1 + 1 + 1) w3 w') 3 (.float 0 (.float 1 (.chain 2 (.tail 3)))) (by kernel_rfl) (by kernel_rfl) (Far.drew _ _) ?_
    iterate 2 ((refine Plan.float_step (v := ?_) rfl (by rfl) (fun _ _ _ h => h) (fun w' hSw => ?_) ?_; rotate_left; · (go_simp; try with_reducible rfl)); (try simp only [Act.put, List.setIfInBounds_toArray, List.set_cons_zero, List.set_cons_succ]))
    refine Plan.chain_step rfl (fun K hK => ?_)
    go_simp
    refine hK.out _ _ (Far.set (Far.drew _ _) _ _) ?_
    clear hK
    (try simp only [Act.put, List.setIfInBounds_toArray, List.set_cons_zero, List.set_cons_succ])
    refine Plan.tail_step ?_
    simp only [List.drop_succ_cons, List.drop_zero]
    clear hSt hSg
    go_wp2
    refine bodyPost_ret (v := .tuple #[.agg #[.slice At1 t.atoms.length ct1], .agg #[.slice A1 n1 c1]]) (by simp [results, Try.results95, go_sem, xres10, xres20]) rfl ⟨t, _, Fs, xs, A1, n1, c1, rfl, App.set (App.set (hA.call (he3.trans (Ext.refl _).drew)) _ (fun q => by have := hrow _ q; simp at this; omega) (fun hm => by have := hfl _ hm; simp at this; omega) (by simp; omega)) _ (fun q => by have := hrow _ q; simp at this; omega) (fun hm => by have := hfl _ hm; simp at this; omega) (by simp; omega), HOK.out, Nat.le_refl _, by omega⟩
  clear hBtK hFtK hBpK hFpK hBqK hFqK hBres1K hFres1K hBres2K hFres2K hBg_3 hFg_3
  have hBtJ := hBt_3
  have hFtJ := hFt_3
  have hBres1J := hBres1_3
  have hFres1J := hFres1_3
  have hBres2J := hBres2_3
  have hFres2J := hFres2_3
  have yp : w.heap.size + 1 < w3.heap.size := by omega
  have xp0 : w3.cell? ⟨w.heap.size + 1, 0, none⟩ = some ((.slice Ap1 p.monos.length cp1)) := hBp_3 0 _ rfl
  have fp := hFp_3
  have yq : w.heap.size + 1 + 1 < w3.heap.size := by omega
  have xq0 : w3.cell? ⟨w.heap.size + 1 + 1, 0, none⟩ = some ((.slice Aq1 q.monos.length cq1)) := hBq_3 0 _ rfl
  have fq := hFq_3
  go_upto_region 7 with fail
  clear xp0 yp
  clear fp
  clear xq0 yq
  clear fq
  have he4 : Ext w (w3.alloc (.cells #[.int .i64 4, .int .i64 op, .slice Ap1 p.monos.length cp1, .slice Aq1 q.monos.length cq1] 30)) := Ext.hold he3
  have hx4 : Ext w3 (w3.alloc (.cells #[.int .i64 4, .int .i64 op, .slice Ap1 p.monos.length cp1, .slice Aq1 q.monos.length cq1] 30)) := Ext.auto
  have hs4 : w3.heap.size + 1 ≤ ((w3.alloc (.cells #[.int .i64 4, .int .i64 op, .slice Ap1 p.monos.length cp1, .slice Aq1 q.monos.length cq1] 30))).heap.size := by simp
  have hBt_4 : Bx (w3.alloc (.cells #[.int .i64 4, .int .i64 op, .slice Ap1 p.monos.length cp1, .slice Aq1 q.monos.length cq1] 30)) (w.heap.size) [(.slice At1 t.atoms.length ct1)] := Bx.hold hBt_3
  have hFt_4 : ∀ oo, (w3.alloc (.cells #[.int .i64 4, .int .i64 op, .slice Ap1 p.monos.length cp1, .slice Aq1 q.monos.length cq1] 30)).frozen? ⟨w.heap.size, oo, none⟩ = false := fz_hold hFt_3
  have hBp_4 : Bx (w3.alloc (.cells #[.int .i64 4, .int .i64 op, .slice Ap1 p.monos.length cp1, .slice Aq1 q.monos.length cq1] 30)) (w.heap.size + 1) [(.slice Ap1 p.monos.length cp1)] := Bx.hold hBp_3
  have hFp_4 : ∀ oo, (w3.alloc (.cells #[.int .i64 4, .int .i64 op, .slice Ap1 p.monos.length cp1, .slice Aq1 q.monos.length cq1] 30)).frozen? ⟨w.heap.size + 1, oo, none⟩ = false := fz_hold hFp_3
  have hBq_4 : Bx (w3.alloc (.cells #[.int .i64 4, .int .i64 op, .slice Ap1 p.monos.length cp1, .slice Aq1 q.monos.length cq1] 30)) (w.heap.size + 1 + 1) [(.slice Aq1 q.monos.length cq1)] := Bx.hold hBq_3
  have hFq_4 : ∀ oo, (w3.alloc (.cells #[.int .i64 4, .int .i64 op, .slice Ap1 p.monos.length cp1, .slice Aq1 q.monos.length cq1] 30)).frozen? ⟨w.heap.size + 1 + 1, oo, none⟩ = false := fz_hold hFq_3
  have hBres1_4 : Bx (w3.alloc (.cells #[.int .i64 4, .int .i64 op, .slice Ap1 p.monos.length cp1, .slice Aq1 q.monos.length cq1] 30)) (w.heap.size + 1 + 1 + 1) [.slice none 0 0] := Bx.hold hBres1_3
  have hFres1_4 : ∀ oo, (w3.alloc (.cells #[.int .i64 4, .int .i64 op, .slice Ap1 p.monos.length cp1, .slice Aq1 q.monos.length cq1] 30)).frozen? ⟨w.heap.size + 1 + 1 + 1, oo, none⟩ = false := fz_hold hFres1_3
  have hBres2_4 : Bx (w3.alloc (.cells #[.int .i64 4, .int .i64 op, .slice Ap1 p.monos.length cp1, .slice Aq1 q.monos.length cq1] 30)) (w.heap.size + 1 + 1 + 1 + 1) [.slice none 0 0] := Bx.hold hBres2_3
  have hFres2_4 : ∀ oo, (w3.alloc (.cells #[.int .i64 4, .int .i64 op, .slice Ap1 p.monos.length cp1, .slice Aq1 q.monos.length cq1] 30)).frozen? ⟨w.heap.size + 1 + 1 + 1 + 1, oo, none⟩ = false := fz_hold hFres2_3
  have hBc_4 : Bx (w3.alloc (.cells #[.int .i64 4, .int .i64 op, .slice Ap1 p.monos.length cp1, .slice Aq1 q.monos.length cq1] 30)) (w3.heap.size) [.int .i64 4, .int .i64 op, .slice Ap1 p.monos.length cp1, .slice Aq1 q.monos.length cq1] := Bx.new w3 #[.int .i64 4, .int .i64 op, .slice Ap1 p.monos.length cp1, .slice Aq1 q.monos.length cq1] 30
  have hFc_4 : ∀ oo, (w3.alloc (.cells #[.int .i64 4, .int .i64 op, .slice Ap1 p.monos.length cp1, .slice Aq1 q.monos.length cq1] 30)).frozen? ⟨w3.heap.size, oo, none⟩ = false := fz_new w3 #[.int .i64 4, .int .i64 op, .slice Ap1 p.monos.length cp1, .slice Aq1 q.monos.length cq1] 30 rfl
  generalize (w3.alloc (.cells #[.int .i64 4, .int .i64 op, .slice Ap1 p.monos.length cp1, .slice Aq1 q.monos.length cq1] 30)) = w4 at *
  clear hBt_3 hFt_3 hBp_3 hFp_3 hBq_3 hFq_3 hBres1_3 hFres1_3 hBres2_3 hFres2_3
  go_cut [49] (fun v wx => ∃ bb : Bool, v = .bool bb ∧ Ext w4 wx)
  · cases h2 : (op != 2)
    · go_wp2_with fail
      go_meet
      exact ⟨_, rfl, Ext.refl _⟩
    · 
      have yp : w.heap.size + 1 < w4.heap.size := by omega
      have xp0 : w4.cell? ⟨w.heap.size + 1, 0, none⟩ = some ((.slice Ap1 p.monos.length cp1)) := hBp_4 0 _ rfl
      have fp := hFp_4
      have yq : w.heap.size + 1 + 1 < w4.heap.size := by omega
      have xq0 : w4.cell? ⟨w.heap.size + 1 + 1, 0, none⟩ = some ((.slice Aq1 q.monos.length cq1)) := hBq_4 0 _ rfl
      have fq := hFq_4
      go_wp2_with fail
      refine (specPolOrder_any p q _ _ _ (hp1.ext (Ext.trans he4 Ext.auto)) (hq1.ext (Ext.trans he4 Ext.auto))).mono ?_
      rintro e w9 ⟨rfl, hy⟩
      have hx9 : Ext w4 w9 := Ext.trans Ext.auto hy
      generalize polOrd p q = o at *
      go_wp2_with fail
      go_meet
      exact ⟨_, rfl, hx9⟩
  obtain ⟨w5, hwc⟩ : ∃ w5 : World, w5 = wc := ⟨_, rfl⟩
  subst hwc
  obtain ⟨bb, rfl, hy⟩ := hcut
  have hx5 : Ext w4 w5 := Ext.trans (Ext.auto) hy
  have hs5 := hx5.size
  have he5 : Ext w w5 := he4.trans hx5
  have hBt_5 : Bx w5 (w.heap.size) [(.slice At1 t.atoms.length ct1)] := hx5.bx hBt_4 (by omega)
  have hFt_5 : ∀ oo, w5.frozen? ⟨w.heap.size, oo, none⟩ = false := fun oo => (hx5.frozen (by omega)).trans (hFt_4 oo)
  have hBp_5 : Bx w5 (w.heap.size + 1) [(.slice Ap1 p.monos.length cp1)] := hx5.bx hBp_4 (by omega)
  have hFp_5 : ∀ oo, w5.frozen? ⟨w.heap.size + 1, oo, none⟩ = false := fun oo => (hx5.frozen (by omega)).trans (hFp_4 oo)
  have hBq_5 : Bx w5 (w.heap.size + 1 + 1) [(.slice Aq1 q.monos.length cq1)] := hx5.bx hBq_4 (by omega)
  have hFq_5 : ∀ oo, w5.frozen? ⟨w.heap.size + 1 + 1, oo, none⟩ = false := fun oo => (hx5.frozen (by omega)).trans (hFq_4 oo)
  have hBres1_5 : Bx w5 (w.heap.size + 1 + 1 + 1) [.slice none 0 0] := hx5.bx hBres1_4 (by omega)
  have hFres1_5 : ∀ oo, w5.frozen? ⟨w.heap.size + 1 + 1 + 1, oo, none⟩ = false := fun oo => (hx5.frozen (by omega)).trans (hFres1_4 oo)
  have hBres2_5 : Bx w5 (w.heap.size + 1 + 1 + 1 + 1) [.slice none 0 0] := hx5.bx hBres2_4 (by omega)
  have hFres2_5 : ∀ oo, w5.frozen? ⟨w.heap.size + 1 + 1 + 1 + 1, oo, none⟩ = false := fun oo => (hx5.frozen (by omega)).trans (hFres2_4 oo)
  have hBc_5 : Bx w5 (w3.heap.size) [.int .i64 4, .int .i64 op, .slice Ap1 p.monos.length cp1, .slice Aq1 q.monos.length cq1] := hx5.bx hBc_4 (by omega)
  have hFc_5 : ∀ oo, w5.frozen? ⟨w3.heap.size, oo, none⟩ = false := fun oo => (hx5.frozen (by omega)).trans (hFc_4 oo)
  clear hBt_4 hFt_4 hBp_4 hFp_4 hBq_4 hFq_4 hBres1_4 hFres1_4 hBres2_4 hFres2_4 hBc_4 hFc_4
  clear hy
  go_upto_if 49 with fail
  go_cut [] (fun wx => ∃ (X Y : TrmPoly) (AX AY : Option Addr) (cX cY : Nat), Ext w3 wx ∧ w5.heap.size ≤ wx.heap.size ∧ Bx wx (w3.heap.size) [.int .i64 4, .int .i64 op, .slice AX X.monos.length cX, .slice AY Y.monos.length cY] ∧ Sl w (Old w) (.slice AX X.monos.length cX) X.monos ∧ Sl w (Old w) (.slice AY Y.monos.length cY) Y.monos ∧ Hid ((polOkB X = true ∧ polOkB Y = true) ∧ polUnderB X (t.atoms.length : Int) = true ∧ polUnderB Y (t.atoms.length : Int) = true))
  · 
    have hxJ : Ext w3 w5 := hx4.trans hx5
    cases bb
    · go_wp2_with fail
      go_meet
      exact ⟨p, q, _, _, _, _, hxJ, Nat.le_refl _, hBc_5, hp1, hq1, ⟨⟨HPK.out, HQK.out⟩, HPU.out, HQU.out⟩⟩
    · 
      have yp : w.heap.size + 1 < w5.heap.size := by omega
      have xp0 : w5.cell? ⟨w.heap.size + 1, 0, none⟩ = some ((.slice Ap1 p.monos.length cp1)) := hBp_5 0 _ rfl
      have fp := hFp_5
      have yq : w.heap.size + 1 + 1 < w5.heap.size := by omega
      have xq0 : w5.cell? ⟨w.heap.size + 1 + 1, 0, none⟩ = some ((.slice Aq1 q.monos.length cq1)) := hBq_5 0 _ rfl
      have fq := hFq_5
      have yc : w3.heap.size < w5.heap.size := by omega
      have xc0 := hBc_5 0 _ rfl
      have xc1 := hBc_5 1 _ rfl
      have xc2 := hBc_5 2 _ rfl
      have xc3 := hBc_5 3 _ rfl
      have fc := hFc_5
      have hBS := Bx.put (Bx.put (Bx.put (Bx.put hBc_5 (j := 0) (by simp) (.int .i64 4)) (j := 1) (by simp) (.int .i64 op)) (j := 2) (by simp) (.slice Aq1 q.monos.length cq1)) (j := 3) (by simp) (.slice Ap1 p.monos.length cp1)
      simp only [List.set_cons_zero, List.set_cons_succ] at hBS
      go_wp2_with fail
      go_meet
      exact ⟨q, p, _, _, _, _, Ext.hold hxJ, by simp, hBS, hq1, hp1, ⟨⟨HQK.out, HPK.out⟩, HQU.out, HPU.out⟩⟩
  clear hBc_5 hFc_5
  obtain ⟨w6, hwc⟩ : ∃ w6 : World, w6 = wc := ⟨_, rfl⟩
  subst hwc
  obtain ⟨X, Y, AX, AY, cX, cY, hxJ, hs6, hBc_6, hX, hY, HK⟩ := hcut
  have he6 := he3.trans hxJ
  have hBt_6 := hxJ.bx hBtJ (by omega)
  have hFt_6 : ∀ oo, w6.frozen? ⟨w.heap.size, oo, none⟩ = false := fun oo => (hxJ.frozen (by omega)).trans (hFtJ oo)
  have hBres1_6 := hxJ.bx hBres1J (by omega)
  have hFres1_6 : ∀ oo, w6.frozen? ⟨w.heap.size + 1 + 1 + 1, oo, none⟩ = false := fun oo => (hxJ.frozen (by omega)).trans (hFres1J oo)
  have hBres2_6 := hxJ.bx hBres2J (by omega)
  have hFres2_6 : ∀ oo, w6.frozen? ⟨w.heap.size + 1 + 1 + 1 + 1, oo, none⟩ = false := fun oo => (hxJ.frozen (by omega)).trans (hFres2J oo)
  clear hBtJ hFtJ hBres1J hFres1J hBres2J hFres2J
  have ha : atomOkB ⟨4, op, X, Y⟩ (t.atoms.length : Int) = true := by
    unfold atomOkB
    rw [if_neg (show ¬ (4 : Int) = 1 by decide), if_neg (show ¬ ((4 : Int) = 2 ∨ (4 : Int) = 3) by decide), if_pos rfl]
    simp only [Bool.and_eq_true]
    exact ⟨⟨⟨⟨by unfold inB; simp; omega, HK.out.1.1⟩, HK.out.1.2⟩, HK.out.2.1⟩, HK.out.2.2⟩
  have hdp := hide (do_put HOK.out hl2 ha)
  have hbA : Bulk.blk (⟨4, op, X, Y⟩ : TabAtom) ≤ 4194304 := by have := atom_blk ha; omega
  have hka : (⟨4, op, X, Y⟩ : TabAtom).Ok := ⟨by show Fits 4; unfold Fits; omega, by show Fits op; unfold Fits; omega⟩
  clear ha HK
  have yt : w.heap.size < w6.heap.size := by omega
  have xt0 : w6.cell? ⟨w.heap.size, 0, none⟩ = some ((.slice At1 t.atoms.length ct1)) := hBt_6 0 _ rfl
  have yc : w3.heap.size < w6.heap.size := by omega
  have xc0 := hBc_6 0 _ rfl
  have xc1 := hBc_6 1 _ rfl
  have xc2 := hBc_6 2 _ rfl
  have xc3 := hBc_6 3 _ rfl
  go_wp2_with fail
  refine (l5PutT_any t ⟨4, op, X, Y⟩ _ _ _ Fs xs wb _ (hA.call (Ext.trans he6 Ext.auto)) (hX.ext (Ext.trans he6 Ext.auto)) (hY.ext (Ext.trans he6 Ext.auto)) hka HOK.out hbA).mono ?_
  rintro e w90 ⟨r, Fs', xs', rfl, hB, hT, hvo, hfo⟩
  clear xt0 yt
  clear xc0 xc1 xc2 xc3 yc
  have hs90 := hT.size
  have hno : ∀ b, w.heap.size ≤ b → b ∉ (Value.ownBlock (.slice At1 t.atoms.length ct1)).toList := fun b hb hm => by have := hrow b (by simpa using hm); omega
  have hBres1_90 := hT.bx hBres1_6 (by omega) (hno _ (by omega))
  have hBres2_90 := hT.bx hBres2_6 (by omega) (hno _ (by omega))
  have hFres1_90 : ∀ oo, w90.frozen? ⟨w.heap.size + 1 + 1 + 1, oo, none⟩ = false := fun oo => (hT.frozen (by omega) (hno _ (by omega))).trans (hFres1_6 oo)
  have hFres2_90 : ∀ oo, w90.frozen? ⟨w.heap.size + 1 + 1 + 1 + 1, oo, none⟩ = false := fun oo => (hT.frozen (by omega) (hno _ (by omega))).trans (hFres2_6 oo)
  have hd1 := hdp.out
  obtain ⟨hk0, hk1, hok2, hg1, hg2⟩ := hd1
  generalize tabPutAt t ⟨4, op, X, Y⟩ = kk at *
  generalize tabPut t ⟨4, op, X, Y⟩ = t2 at *
  clear hdp hT hno
  obtain ⟨F9, hO9, -⟩ := hB.done
  obtain ⟨A9, c9, rfl, -, -⟩ := hO9.sl.form
  clear hO9 F9
  have hv9 : ∀ q, Value.ownBlock (.slice A9 t2.atoms.length c9) = some q → q < w.heap.size ∨ w6.heap.size ≤ q := fun q hq => by
    rcases hvo q hq with h | h
    · exact .inl (hrow q h).2
    · exact .inr h
  have hf9 : ∀ z, z ∈ Fs'.flatten → z < w.heap.size ∨ w6.heap.size ≤ z := fun z hz => by
    rcases hfo z hz with h | h
    · exact .inl (hfl z h)
    · exact .inr h
  clear hvo hfo
  have qk : decide (kk < 0) = false := decide_eq_false (by omega)
  go_upto_region 10 with fail
  have hB91 := hB.call (show Ext w90 (w90.alloc (.cells #[.slice A9 t2.atoms.length c9] 25)) from Ext.auto)
  have hBu_91 : Bx (w90.alloc (.cells #[.slice A9 t2.atoms.length c9] 25)) w90.heap.size [.slice A9 t2.atoms.length c9] := Bx.new w90 #[.slice A9 t2.atoms.length c9] 25
  have hBres1_91 := Bx.hold (w' := (w90.alloc (.cells #[.slice A9 t2.atoms.length c9] 25))) hBres1_90
  have hBres2_91 := Bx.hold (w' := (w90.alloc (.cells #[.slice A9 t2.atoms.length c9] 25))) hBres2_90
  have hFres1_91 : ∀ oo, (w90.alloc (.cells #[.slice A9 t2.atoms.length c9] 25)).frozen? ⟨w.heap.size + 1 + 1 + 1, oo, none⟩ = false := fz_hold hFres1_90
  have hFres2_91 : ∀ oo, (w90.alloc (.cells #[.slice A9 t2.atoms.length c9] 25)).frozen? ⟨w.heap.size + 1 + 1 + 1 + 1, oo, none⟩ = false := fz_hold hFres2_90
  have hs91 : w90.heap.size + 1 ≤ ((w90.alloc (.cells #[.slice A9 t2.atoms.length c9] 25))).heap.size := by simp
  clear hBres1_90 hBres2_90 hFres1_90 hFres2_90
  generalize (w90.alloc (.cells #[.slice A9 t2.atoms.length c9] 25)) = w91 at *
  have xu0 := hBu_91 0 _ rfl
  have yu : w90.heap.size < w91.heap.size := by omega
  go_upto_region 12 with fail
  have hS : ∀ w', Ext w91 w' → ∀ bb oo, bb < w91.heap.size → w'.cell? ⟨bb, oo, none⟩ = w91.cell? ⟨bb, oo, none⟩ := fun w' hx bb oo hb => hx.cell hb
  refine wp_region_plan (fun w' => Ext w91 w') 3 (.float 0 (.float 1 (.chain 2 (.tail 3)))) (by kernel_rfl) (by kernel_rfl) (Ext.refl _).drew ?_
  iterate 2 ((refine Plan.float_step (v := ?_) rfl (by rfl) (fun _ _ _ h => h) (fun w' hSw => ?_) ?_; rotate_left; · (go_simp; try with_reducible rfl)); (try simp only [Act.put, List.setIfInBounds_toArray, List.set_cons_zero, List.set_cons_succ]))
  refine Plan.chain_step rfl (fun K hK => ?_)
  go_simp
  refine (specPolAtom_any kk _ hk0 hk1).mono ?_
  rintro e w92 ⟨r2, F2, rfl, hO2, -, hy⟩
  have hx92 : Ext w91 w92 := Ext.trans Ext.auto hy
  obtain ⟨B2, d2, rfl, -, -⟩ := hO2.sl.form
  clear hO2 hy
  refine hK.out _ _ hx92 ?_
  clear hK
  (try simp only [Act.put, List.setIfInBounds_toArray, List.set_cons_zero, List.set_cons_succ])
  refine Plan.tail_step ?_
  simp only [List.drop_succ_cons, List.drop_zero]
  clear hS
  have hs92 := hx92.size
  have xres10 : w92.cell? ⟨w.heap.size + 1 + 1 + 1, 0, none⟩ = some (.slice none 0 0) := (hx92.bx hBres1_91 (by omega)) 0 _ rfl
  have yres1 : w.heap.size + 1 + 1 + 1 < w92.heap.size := by omega
  have fres1 : ∀ oo, w92.frozen? ⟨w.heap.size + 1 + 1 + 1, oo, none⟩ = false := fun oo => (hx92.frozen (by omega)).trans (hFres1_91 oo)
  have xres20 : w92.cell? ⟨w.heap.size + 1 + 1 + 1 + 1, 0, none⟩ = some (.slice none 0 0) := (hx92.bx hBres2_91 (by omega)) 0 _ rfl
  have yres2 : w.heap.size + 1 + 1 + 1 + 1 < w92.heap.size := by omega
  have fres2 : ∀ oo, w92.frozen? ⟨w.heap.size + 1 + 1 + 1 + 1, oo, none⟩ = false := fun oo => (hx92.frozen (by omega)).trans (hFres2_91 oo)
  go_wp2
  refine bodyPost_ret (v := .tuple #[.agg #[.slice A9 t2.atoms.length c9], .agg #[.slice B2 (polK kk).monos.length d2]]) (by simp [results, Try.results95, go_sem, xres10, xres20]) rfl ⟨t2, _, Fs', xs', _, _, _, rfl, App.set (App.set (hB91.call hx92) _ (fun q => by have := hv9 _ q; simp at this; omega) (fun hm => by have := hf9 _ hm; simp at this; omega) (by simp; omega)) _ (fun q => by have := hv9 _ q; simp at this; omega) (fun hm => by have := hf9 _ hm; simp at this; omega) (by simp; omega), hok2, hg1, hg2⟩

end Go.Proofs.Ytmbclopkopfngaa
