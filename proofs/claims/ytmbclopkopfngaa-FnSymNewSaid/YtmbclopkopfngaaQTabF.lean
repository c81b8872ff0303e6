/-
  TabF
-/
import Derived.Test.YtmbclopkopfngaaQTabI
import Derived.Deep.DeepCutAuto
namespace Go.Proofs.Ytmbclopkopfngaa
open Go.RowKit

set_option linter.unusedVariables false
set_option linter.unusedSimpArgs false
set_option maxRecDepth 100000

set_option maxHeartbeats 8000000 in
theorem findC_any (a b : TabAtom) (va1 va2 vb1 vb2 : Value) (g : Nat) (w : World) (ha1 : Sl w (Old w) va1 a.x.monos) (ha2 : Sl w (Old w) va2 a.y.monos) (hb1 : Sl w (Old w) vb1 b.x.monos) (hb2 : Sl w (Old w) vb2 b.y.monos) (hg : g < w.heap.size) (hBg : Bx w g [.int .i64 a.kind, .int .i64 a.k, va1, va2]) :
    Calls Try.prog 64 #[.agg #[.int .i64 b.kind, .int .i64 b.k, vb1, vb2], .pointer (some ⟨g, 0, none⟩)] w fun e w' => e = .returned (.bool (decide (a = b))) ∧ Ext w w' := by
  obtain ⟨Aa1, ca1, rfl, -, -⟩ := ha1.form
  obtain ⟨Aa2, ca2, rfl, -, -⟩ := ha2.form
  obtain ⟨Ab1, cb1, rfl, hlb1, hmb1⟩ := hb1.form
  obtain ⟨Ab2, cb2, rfl, hlb2, hmb2⟩ := hb2.form
  go_enter Try.func64, Try.ntmps64
  go_upto_region 1 with fail
  have he0 : Ext w (w.alloc (Obj.cells #[.int .i64 b.kind, .int .i64 b.k, (.slice Ab1 b.x.monos.length cb1), (.slice Ab2 b.y.monos.length cb2)] 30)) := (Ext.auto)
  have hs0 : w.heap.size + 1 ≤ ((w.alloc (Obj.cells #[.int .i64 b.kind, .int .i64 b.k, (.slice Ab1 b.x.monos.length cb1), (.slice Ab2 b.y.monos.length cb2)] 30))).heap.size := by simp
  have hq0 := hide (show ((w.alloc (Obj.cells #[.int .i64 b.kind, .int .i64 b.k, (.slice Ab1 b.x.monos.length cb1), (.slice Ab2 b.y.monos.length cb2)] 30))).heap.size = w.heap.size + 1 by simp)
  have hBb_0 : Bx (w.alloc (Obj.cells #[.int .i64 b.kind, .int .i64 b.k, (.slice Ab1 b.x.monos.length cb1), (.slice Ab2 b.y.monos.length cb2)] 30)) (w.heap.size) [.int .i64 b.kind, .int .i64 b.k, (.slice Ab1 b.x.monos.length cb1), (.slice Ab2 b.y.monos.length cb2)] := (by have := (Bx.new w #[.int .i64 b.kind, .int .i64 b.k, (.slice Ab1 b.x.monos.length cb1), (.slice Ab2 b.y.monos.length cb2)] 30); simpa using this)
  have hFb_0 : ∀ oo, ((w.alloc (Obj.cells #[.int .i64 b.kind, .int .i64 b.k, (.slice Ab1 b.x.monos.length cb1), (.slice Ab2 b.y.monos.length cb2)] 30))).frozen? ⟨w.heap.size, oo, none⟩ = false := fun oo => by simp
  generalize (w.alloc (Obj.cells #[.int .i64 b.kind, .int .i64 b.k, (.slice Ab1 b.x.monos.length cb1), (.slice Ab2 b.y.monos.length cb2)] 30)) = w0 at *
  have yb : w.heap.size < w0.heap.size := by omega
  have xb0 := hBb_0 0 _ rfl
  have xb1 := hBb_0 1 _ rfl
  have xb2 := hBb_0 2 _ rfl
  have xb3 := hBb_0 3 _ rfl
  have hBa := he0.bx hBg hg
  have yg : g < w0.heap.size := by omega
  have xg0 := hBa 0 _ rfl
  have xg1 := hBa 1 _ rfl
  have xg2 := hBa 2 _ rfl
  have xg3 := hBa 3 _ rfl
  go_wp2_with fail
  refine (implSameAtom_any a b _ _ _ _ _ (ha1.ext (Ext.trans he0 Ext.auto)) (ha2.ext (Ext.trans he0 Ext.auto)) (hb1.ext (Ext.trans he0 Ext.auto)) (hb2.ext (Ext.trans he0 Ext.auto))).mono ?_
  rintro e w1 ⟨rfl, hy⟩
  go_wp2
  go_ret
  exact ⟨rfl, Ext.trans he0 hy⟩

set_option maxHeartbeats 8000000 in
theorem indexTab_any (l : List TabAtom) (a : TabAtom) (v va1 va2 : Value) (gb : Nat) (w : World) (h : Sl w (Old w) v l) (ha1 : Sl w (Old w) va1 a.x.monos) (ha2 : Sl w (Old w) va2 a.y.monos) (hg : gb < w.heap.size) (hBg : Bx w gb [.int .i64 a.kind, .int .i64 a.k, va1, va2]) :
    Calls Try.prog 63 #[v, .func (.func 64) #[] #[.pointer (some ⟨gb, 0, none⟩)]] w fun e w' => e = .returned (.int .i64 (findT l a)) ∧ Ext w w' := by
  obtain ⟨Al, cl, rfl, hll, hlm⟩ := h.form
  unfold maxLen at hlm
  go_enter Try.func63, Try.ntmps63
  go_wp2
  go_loopw [5, 8] (fun _ i wr => ∃ k : Nat, k ≤ l.length ∧ i = .int .i64 k ∧ Ext w wr ∧ Hid (∀ j, j < k → gA l j ≠ a)) (fun _ i _ => l.length - (intOf i).toNat)
  case atStart => exact ⟨0, by omega, rfl, Ext.auto, fun j hj => absurd hj (by omega)⟩
  case round =>
    obtain ⟨k, hk, rfl, hx0, HT⟩ := hrel
    obtain ⟨w1, hw1⟩ : ∃ w1 : World, w1 = wr := ⟨_, rfl⟩
    subst hw1
    have hz := hx0.size
    by_cases hlt : k < l.length
    · obtain ⟨b, off, vb1, vb2, rfl, hbo, hk0, hvb1, hvb2, e0, e1, e2, e3⟩ := at_TabAtom (h.ext hx0) hlt
      obtain ⟨Avb1, cvb1, rfl, -, -⟩ := hvb1.form
      obtain ⟨Avb2, cvb2, rfl, -, -⟩ := hvb2.form
      have z0 : (0 : Int) ≤ (k : Int) := by omega
      have z1 : (k : Int) < (l.length : Int) := by omega
      have HG := hide (gA_at l k hlt)
      go_wp2_with fail
      refine (findC_any a l[k] va1 va2 _ _ gb _ (ha1.ext hx0) (ha2.ext hx0) hvb1 hvb2 (by omega) (hx0.bx hBg hg)).mono ?_
      rintro e w2 ⟨rfl, hy⟩
      have hx2 := hx0.trans hy
      clear hy
      cases qn : decide (a = l[k])
      · have HN := hide (show ∀ j, j < k + 1 → gA l j ≠ a from fun j hj => by
          by_cases e : j = k
          · subst e; rw [HG.out]; exact fun q => of_decide_eq_false qn q.symm
          · exact HT.out j (by omega))
        go_wp2_with fail
        go_roundw
        case rel => exact ⟨k + 1, by omega, by go_num, hx2, HN.out⟩
        case measure => (simp [intOf]; try omega)
      · have HF := hide (findT_at hlt HT.out (by rw [HG.out]; exact (of_decide_eq_true qn).symm))
        go_wp2
        go_ret
        exact ⟨by rw [HF.out]; rfl, hx2⟩
    · obtain rfl : k = l.length := by omega
      have HF := hide (findT_none HT.out)
      go_wp2
      go_ret
      exact ⟨by rw [HF.out]; rfl, hx0⟩

set_option maxHeartbeats 8000000 in
theorem find_any (t : TabTab) (a : TabAtom) (vt1 va1 va2 : Value) (w : World) (ht1 : Sl w (Old w) vt1 t.atoms) (ha1 : Sl w (Old w) va1 a.x.monos) (ha2 : Sl w (Old w) va2 a.y.monos)  :
    Calls Try.prog 34 #[.agg #[vt1], .agg #[.int .i64 a.kind, .int .i64 a.k, va1, va2]] w fun e w' => e = .returned (.int .i64 (findT t.atoms a)) ∧ Ext w w' := by
  obtain ⟨At1, ct1, rfl, hlt1, hmt1⟩ := ht1.form
  obtain ⟨Aa1, ca1, rfl, hla1, hma1⟩ := ha1.form
  obtain ⟨Aa2, ca2, rfl, hla2, hma2⟩ := ha2.form
  go_enter Try.func34, Try.ntmps34
  go_upto_region 1 with fail
  have he0 : Ext w ((w.alloc (Obj.cells #[(.slice At1 t.atoms.length ct1)] 25)).alloc (Obj.cells #[.int .i64 a.kind, .int .i64 a.k, (.slice Aa1 a.x.monos.length ca1), (.slice Aa2 a.y.monos.length ca2)] 30)) := (Ext.auto)
  have hs0 : w.heap.size + 2 ≤ (((w.alloc (Obj.cells #[(.slice At1 t.atoms.length ct1)] 25)).alloc (Obj.cells #[.int .i64 a.kind, .int .i64 a.k, (.slice Aa1 a.x.monos.length ca1), (.slice Aa2 a.y.monos.length ca2)] 30))).heap.size := by simp
  have hq0 := hide (show (((w.alloc (Obj.cells #[(.slice At1 t.atoms.length ct1)] 25)).alloc (Obj.cells #[.int .i64 a.kind, .int .i64 a.k, (.slice Aa1 a.x.monos.length ca1), (.slice Aa2 a.y.monos.length ca2)] 30))).heap.size = w.heap.size + 2 by simp)
  have hBt_0 : Bx ((w.alloc (Obj.cells #[(.slice At1 t.atoms.length ct1)] 25)).alloc (Obj.cells #[.int .i64 a.kind, .int .i64 a.k, (.slice Aa1 a.x.monos.length ca1), (.slice Aa2 a.y.monos.length ca2)] 30)) (w.heap.size) [(.slice At1 t.atoms.length ct1)] := (by have := (Bx.alloc (Bx.new w #[(.slice At1 t.atoms.length ct1)] 25) (by simp) #[.int .i64 a.kind, .int .i64 a.k, (.slice Aa1 a.x.monos.length ca1), (.slice Aa2 a.y.monos.length ca2)] 30); simpa using this)
  have hFt_0 : ∀ oo, (((w.alloc (Obj.cells #[(.slice At1 t.atoms.length ct1)] 25)).alloc (Obj.cells #[.int .i64 a.kind, .int .i64 a.k, (.slice Aa1 a.x.monos.length ca1), (.slice Aa2 a.y.monos.length ca2)] 30))).frozen? ⟨w.heap.size, oo, none⟩ = false := fun oo => by simp
  have hBa_0 : Bx ((w.alloc (Obj.cells #[(.slice At1 t.atoms.length ct1)] 25)).alloc (Obj.cells #[.int .i64 a.kind, .int .i64 a.k, (.slice Aa1 a.x.monos.length ca1), (.slice Aa2 a.y.monos.length ca2)] 30)) (w.heap.size + 1) [.int .i64 a.kind, .int .i64 a.k, (.slice Aa1 a.x.monos.length ca1), (.slice Aa2 a.y.monos.length ca2)] := (by have := (Bx.new (w.alloc (Obj.cells #[(.slice At1 t.atoms.length ct1)] 25)) #[.int .i64 a.kind, .int .i64 a.k, (.slice Aa1 a.x.monos.length ca1), (.slice Aa2 a.y.monos.length ca2)] 30); simpa using this)
  have hFa_0 : ∀ oo, (((w.alloc (Obj.cells #[(.slice At1 t.atoms.length ct1)] 25)).alloc (Obj.cells #[.int .i64 a.kind, .int .i64 a.k, (.slice Aa1 a.x.monos.length ca1), (.slice Aa2 a.y.monos.length ca2)] 30))).frozen? ⟨w.heap.size + 1, oo, none⟩ = false := fun oo => by simp
  generalize ((w.alloc (Obj.cells #[(.slice At1 t.atoms.length ct1)] 25)).alloc (Obj.cells #[.int .i64 a.kind, .int .i64 a.k, (.slice Aa1 a.x.monos.length ca1), (.slice Aa2 a.y.monos.length ca2)] 30)) = w0 at *
  have yt : w.heap.size < w0.heap.size := by omega
  have xt0 : w0.cell? ⟨w.heap.size, 0, none⟩ = some ((.slice At1 t.atoms.length ct1)) := hBt_0 0 _ rfl
  go_wp2_with fail
  refine (indexTab_any t.atoms a _ _ _ _ _ (ht1.ext (Ext.trans he0 Ext.auto)) (ha1.ext (Ext.trans he0 Ext.auto)) (ha2.ext (Ext.trans he0 Ext.auto)) (by omega) hBa_0).mono ?_
  rintro e w1 ⟨rfl, hy⟩
  go_wp2
  go_ret
  exact ⟨rfl, Ext.trans he0 hy⟩

set_option maxHeartbeats 16000000 in
theorem implTabOk_any (t : TabTab) (vt1 : Value) (w : World) (ht1 : Sl w (Old w) vt1 t.atoms) (hn : Bulk.blk t ≤ 4194304) :
    Calls Try.prog 11 #[.agg #[vt1]] w fun e w' => e = .returned (.bool (tabOkB t)) ∧ Ext w w' := by
  obtain ⟨At1, ct1, rfl, hlt1, hmt1⟩ := ht1.form
  unfold maxLen at hmt1
  have hbt : Bulk.blk t = Bulk.blk t.atoms := rfl
  go_enter Try.func11, Try.ntmps11
  go_upto_region 1 with fail
  have he0 : Ext w (w.alloc (Obj.cells #[(.slice At1 t.atoms.length ct1)] 25)) := (Ext.auto)
  have hs0 : w.heap.size + 1 ≤ ((w.alloc (Obj.cells #[(.slice At1 t.atoms.length ct1)] 25))).heap.size := by simp
  have hq0 := hide (show ((w.alloc (Obj.cells #[(.slice At1 t.atoms.length ct1)] 25))).heap.size = w.heap.size + 1 by simp)
  have hBt_0 : Bx (w.alloc (Obj.cells #[(.slice At1 t.atoms.length ct1)] 25)) (w.heap.size) [(.slice At1 t.atoms.length ct1)] := (by have := (Bx.new w #[(.slice At1 t.atoms.length ct1)] 25); simpa using this)
  have hFt_0 : ∀ oo, ((w.alloc (Obj.cells #[(.slice At1 t.atoms.length ct1)] 25))).frozen? ⟨w.heap.size, oo, none⟩ = false := fun oo => by simp
  generalize (w.alloc (Obj.cells #[(.slice At1 t.atoms.length ct1)] 25)) = w0 at *
  have yt : w.heap.size < w0.heap.size := by omega
  have xt0 : w0.cell? ⟨w.heap.size, 0, none⟩ = some ((.slice At1 t.atoms.length ct1)) := hBt_0 0 _ rfl
  go_wp2
  clear xt0 yt
  have HV := hide (show tabOkB t = (decide (t.atoms.length ≤ 200) && allB t.atoms.length (atomAtOk t.atoms)) from rfl)
  go_loopw [8] (fun i wr => ∃ k : Nat, k ≤ t.atoms.length ∧ i = .int .i64 k ∧ Ext w0 wr ∧ Hid (∀ j, j < k → atomAtOk t.atoms j = true)) (fun i _ => t.atoms.length - (intOf i).toNat)
  case atStart => exact ⟨0, by omega, rfl, Ext.auto, fun j hj => absurd hj (by omega)⟩
  case round =>
    obtain ⟨k, hk, rfl, hx0, HT⟩ := hrel
    obtain ⟨w1, hw1⟩ : ∃ w1 : World, w1 = wr := ⟨_, rfl⟩
    subst hw1
    have hz := hx0.size
    have he := he0.trans hx0
    have hB1 := hx0.bx hBt_0 (by omega)
    by_cases hlt : k < t.atoms.length
    · obtain ⟨b, off, va1, va2, rfl, hbo, hk0, hva1, hva2, e0, e1, e2, e3⟩ := at_TabAtom (ht1.ext he) hlt
      obtain ⟨Ava1, cva1, rfl, -, -⟩ := hva1.form
      obtain ⟨Ava2, cva2, rfl, -, -⟩ := hva2.form
      have z0 : (0 : Int) ≤ (k : Int) := by omega
      have z1 : (k : Int) < (t.atoms.length : Int) := by omega
      have HG := hide (gA_at t.atoms k hlt)
      have hbk := blk_el t.atoms k hlt
      have hbs : Bulk.blk t.atoms[k] = Bulk.blk t.atoms[k].x.monos + Bulk.blk t.atoms[k].y.monos := rfl
      have hbx := blk_len t.atoms[k].x.monos
      have hby := blk_len t.atoms[k].y.monos
      have hlx : t.atoms[k].x.monos.length ≤ 4194304 := by omega
      have hly : t.atoms[k].y.monos.length ≤ 4194304 := by omega
      clear hbs hbx hby
      go_upto_region 4 with fail
      have hx1 : Ext w1 (w1.alloc (.cells #[.int .i64 (t.atoms[k].kind), .int .i64 (t.atoms[k].k), .slice Ava1 t.atoms[k].x.monos.length cva1, .slice Ava2 t.atoms[k].y.monos.length cva2] 30)) := (Ext.refl _).alloc _
      have hs1 : w1.heap.size + 1 ≤ (w1.alloc (.cells #[.int .i64 (t.atoms[k].kind), .int .i64 (t.atoms[k].k), .slice Ava1 t.atoms[k].x.monos.length cva1, .slice Ava2 t.atoms[k].y.monos.length cva2] 30)).heap.size := by simp
      have hBm : Bx (w1.alloc (.cells #[.int .i64 (t.atoms[k].kind), .int .i64 (t.atoms[k].k), .slice Ava1 t.atoms[k].x.monos.length cva1, .slice Ava2 t.atoms[k].y.monos.length cva2] 30)) w1.heap.size [.int .i64 (t.atoms[k].kind), .int .i64 (t.atoms[k].k), .slice Ava1 t.atoms[k].x.monos.length cva1, .slice Ava2 t.atoms[k].y.monos.length cva2] := Bx.new w1 #[.int .i64 (t.atoms[k].kind), .int .i64 (t.atoms[k].k), .slice Ava1 t.atoms[k].x.monos.length cva1, .slice Ava2 t.atoms[k].y.monos.length cva2] 30
      have hBt := hx1.bx hB1 (by omega)
      have he2 := he.trans hx1
      generalize w1.alloc (.cells #[.int .i64 (t.atoms[k].kind), .int .i64 (t.atoms[k].k), .slice Ava1 t.atoms[k].x.monos.length cva1, .slice Ava2 t.atoms[k].y.monos.length cva2] 30) = w2 at *
      have m0 := hBm 0 _ rfl
      have m1 := hBm 1 _ rfl
      have m2 := hBm 2 _ rfl
      have m3 := hBm 3 _ rfl
      have ym : w1.heap.size < w2.heap.size := by omega
      have hv1 := hva1.ext hx1
      have hv2 := hva2.ext hx1
      clear e0 e1 e2 e3 hva1 hva2
      go_wp2_with fail
      refine (implAtom_any t.atoms[k] (k : Int) _ _ _ hv1 hv2 hlx hly).mono ?_
      rintro e w3 ⟨rfl, hx3⟩
      have hs3 := hx3.size
      cases q0 : atomOkB t.atoms[k] (k : Int)
      · have HF := hide (show tabOkB t = false by rw [HV.out, allB_no hlt (show atomAtOk t.atoms k = false by unfold atomAtOk; rw [HG.out, q0]; rfl)]; simp)
        go_wp2
        go_ret
        exact ⟨by rw [HF.out]; rfl, he2.trans hx3⟩
      clear m0 m1 m2 m3
      have hBm3 := hx3.bx hBm (by omega)
      have m0 := hBm3 0 _ rfl
      have m1 := hBm3 1 _ rfl
      have m2 := hBm3 2 _ rfl
      have m3 := hBm3 3 _ rfl
      have ym3 : w1.heap.size < w3.heap.size := by omega
      have hBt3 := hx3.bx hBt (by omega)
      have xt3 := hBt3 0 _ rfl
      have yt3 : w.heap.size < w3.heap.size := by omega
      have he3 := he2.trans hx3
      go_wp2_with fail
      refine (find_any t t.atoms[k] _ _ _ _ (ht1.ext he3) (hv1.ext hx3) (hv2.ext hx3)).mono ?_
      rintro e w4 ⟨rfl, hx4⟩
      have HFR := hide (show (findT t.atoms t.atoms[k] == (k : Int)) = freshB t.atoms k by rw [← HG.out]; exact find_fresh hlt)
      cases qf : (findT t.atoms t.atoms[k] == (k : Int))
      · have qn : (findT t.atoms t.atoms[k] != (k : Int)) = true := by unfold bne; rw [qf]; rfl
        have HF := hide (show tabOkB t = false by rw [HV.out, allB_no hlt (show atomAtOk t.atoms k = false by unfold atomAtOk; rw [← HFR.out, qf]; simp)]; simp)
        clear qf
        go_wp2
        go_ret
        exact ⟨by rw [HF.out]; rfl, he3.trans hx4⟩
      · have qn : (findT t.atoms t.atoms[k] != (k : Int)) = false := by unfold bne; rw [qf]; rfl
        have HN := hide (allB_next HT.out (show atomAtOk t.atoms k = true by unfold atomAtOk; rw [HG.out, q0, ← HFR.out, qf]; rfl))
        clear qf
        go_wp2_with fail
        go_roundw
        case rel => exact ⟨k + 1, by omega, by go_num, ((hx0.trans hx1).trans hx3).trans hx4, HN.out⟩
        case measure => (simp [intOf]; try omega)
    · obtain rfl : k = t.atoms.length := by omega
      have HA := hide (allB_yes HT.out)
      have xt0 := hB1 0 _ rfl
      have yt : w.heap.size < w1.heap.size := by omega
      have HF := hide (show tabOkB t = decide (t.atoms.length ≤ 200) by rw [HV.out, HA.out]; simp)
      cases qb : decide (t.atoms.length ≤ 200)
      all_goals
        have qc : decide ((t.atoms.length : Int) ≤ 200) = decide (t.atoms.length ≤ 200) := by rw [Bool.eq_iff_iff]; simp; omega
        rw [qb] at qc
        go_wp2
        go_ret
        exact ⟨by rw [HF.out, qb]; rfl, he⟩

end Go.Proofs.Ytmbclopkopfngaa
