/-
  Whether atoms are ok: the reference.
-/
import Derived.Test.YtdmbgljkogpmdaaTabS
import Derived.Deep.DeepCutAuto
namespace Go.Proofs.Ytdmbgljkogpmdaa
open Go.RowKit

set_option linter.unusedVariables false
set_option linter.unusedSimpArgs false
set_option maxRecDepth 100000

set_option maxHeartbeats 16000000 in
theorem specTabOk_any (t : TabTab) (vt1 : Value) (w : World) (ht1 : Sl w (Old w) vt1 t.atoms)  :
    Calls Try.prog 40 #[.agg #[vt1]] w fun e w' => e = .returned (.bool (tabOkB t)) ∧ Ext w w' := by
  obtain ⟨At1, ct1, rfl, hlt1, hmt1⟩ := ht1.form
  unfold maxLen at hmt1
  by_cases h4 : t.atoms.length ≤ 200
  rotate_left
  · have HV := hide (show tabOkB t = false by unfold tabOkB; rw [decide_eq_false h4]; rfl)
    have qa : decide ((200 : Int) < (t.atoms.length : Int)) = true := decide_eq_true (by omega)
    have qb : decide (200 < t.atoms.length) = true := decide_eq_true (by omega)
    go_enter Try.func40, Try.ntmps40
    go_upto_region 1 with fail
    have he0 : Ext w (w.alloc (Obj.cells #[(.slice At1 t.atoms.length ct1)] 24)) := (Ext.auto)
    have hs0 : w.heap.size + 1 ≤ ((w.alloc (Obj.cells #[(.slice At1 t.atoms.length ct1)] 24))).heap.size := by simp
    have hq0 := hide (show ((w.alloc (Obj.cells #[(.slice At1 t.atoms.length ct1)] 24))).heap.size = w.heap.size + 1 by simp)
    have hBt_0 : Bx (w.alloc (Obj.cells #[(.slice At1 t.atoms.length ct1)] 24)) (w.heap.size) [(.slice At1 t.atoms.length ct1)] := (by have := (Bx.new w #[(.slice At1 t.atoms.length ct1)] 24); simpa using this)
    have hFt_0 : ∀ oo, ((w.alloc (Obj.cells #[(.slice At1 t.atoms.length ct1)] 24))).frozen? ⟨w.heap.size, oo, none⟩ = false := fun oo => by simp
    generalize (w.alloc (Obj.cells #[(.slice At1 t.atoms.length ct1)] 24)) = w0 at *
    have yt : w.heap.size < w0.heap.size := by omega
    have xt0 : w0.cell? ⟨w.heap.size, 0, none⟩ = some ((.slice At1 t.atoms.length ct1)) := hBt_0 0 _ rfl
    go_wp2
    go_ret
    exact ⟨by rw [HV.out]; rfl, Ext.hold he0⟩
  have HV := hide (show tabOkB t = allB t.atoms.length (atomAtOk t.atoms) by unfold tabOkB; rw [decide_eq_true h4]; rfl)
  have qa : decide ((200 : Int) < (t.atoms.length : Int)) = false := decide_eq_false (by omega)
  have qb : decide (200 < t.atoms.length) = false := decide_eq_false (by omega)
  go_enter Try.func40, Try.ntmps40
  go_upto_region 1 with fail
  have he0 : Ext w (w.alloc (Obj.cells #[(.slice At1 t.atoms.length ct1)] 24)) := (Ext.auto)
  have hs0 : w.heap.size + 1 ≤ ((w.alloc (Obj.cells #[(.slice At1 t.atoms.length ct1)] 24))).heap.size := by simp
  have hq0 := hide (show ((w.alloc (Obj.cells #[(.slice At1 t.atoms.length ct1)] 24))).heap.size = w.heap.size + 1 by simp)
  have hBt_0 : Bx (w.alloc (Obj.cells #[(.slice At1 t.atoms.length ct1)] 24)) (w.heap.size) [(.slice At1 t.atoms.length ct1)] := (by have := (Bx.new w #[(.slice At1 t.atoms.length ct1)] 24); simpa using this)
  have hFt_0 : ∀ oo, ((w.alloc (Obj.cells #[(.slice At1 t.atoms.length ct1)] 24))).frozen? ⟨w.heap.size, oo, none⟩ = false := fun oo => by simp
  generalize (w.alloc (Obj.cells #[(.slice At1 t.atoms.length ct1)] 24)) = w0 at *
  have yt : w.heap.size < w0.heap.size := by omega
  have xt0 : w0.cell? ⟨w.heap.size, 0, none⟩ = some ((.slice At1 t.atoms.length ct1)) := hBt_0 0 _ rfl
  go_wp2
  clear xt0 yt
  clear qa qb
  go_loopw [3] (fun i wr => ∃ k : Nat, k ≤ t.atoms.length ∧ i = .int .i64 k ∧ Ext w0 wr ∧ Hid (∀ j, j < k → atomAtOk t.atoms j = true)) (fun i _ => t.atoms.length - (intOf i).toNat)
  case atStart => exact ⟨0, by omega, rfl, Ext.auto, fun j hj => absurd hj (by omega)⟩
  case round =>
    obtain ⟨k, hk, rfl, hx0, HT⟩ := hrel
    obtain ⟨w1, hw1⟩ : ∃ w1 : World, w1 = wr := ⟨_, rfl⟩
    subst hw1
    have hz := hx0.size
    have he := he0.trans hx0
    have hB1 := hx0.bx hBt_0 (by omega)
    have xt0 := hB1 0 _ rfl
    have yt : w.heap.size < w1.heap.size := by omega
    by_cases hlt : k < t.atoms.length
    · obtain ⟨b, off, va1, va2, rfl, hbo, hk0, hva1, hva2, e0, e1, e2, e3⟩ := at_TabAtom (ht1.ext he) hlt
      obtain ⟨Ava1, cva1, rfl, -, -⟩ := hva1.form
      obtain ⟨Ava2, cva2, rfl, -, -⟩ := hva2.form
      have hbo1 : b < w1.heap.size := hbo
      have z0 : (0 : Int) ≤ (k : Int) := by omega
      have z1 : (k : Int) < (t.atoms.length : Int) := by omega
      have HG := hide (gA_at t.atoms k hlt)
      go_wp2_with fail
      refine (specAtom_any t.atoms[k] (k : Int) _ _ _ hva1 hva2).mono ?_
      rintro e w2 ⟨rfl, hx2⟩
      have hs2 := hx2.size
      have he2 := he.trans hx2
      cases q0 : atomOkB t.atoms[k] (k : Int)
      · have HF := hide (show tabOkB t = false by rw [HV.out]; exact allB_no hlt (by unfold atomAtOk; rw [HG.out, q0]; rfl))
        go_wp2
        go_ret
        exact ⟨by rw [HF.out]; rfl, he2⟩
      have xt2 := (hx2.cell yt).trans xt0
      go_wp2
      go_loopw [4] (fun i wr => ∃ j : Nat, j ≤ k ∧ i = .int .i64 j ∧ Ext w2 wr ∧ Hid (∀ i, i < j → (!decide (gA t.atoms i = gA t.atoms k)) = true)) (fun i _ => k - (intOf i).toNat)
      case atStart => exact ⟨0, by omega, rfl, Ext.refl _, fun j hj => absurd hj (by omega)⟩
      case round =>
        obtain ⟨j, hj, rfl, hx3, HTj⟩ := hrel
        obtain ⟨w3, hw3⟩ : ∃ w3 : World, w3 = wr := ⟨_, rfl⟩
        subst hw3
        have hs3 := hx3.size
        have he3 := he2.trans hx3
        have xt3 := (hx3.cell (by omega)).trans xt2
        have yt3 : w.heap.size < w3.heap.size := by omega
        have hbo3 : b < w3.heap.size := by omega
        by_cases hjk : j < k
        · obtain ⟨bj, offj, vaj1, vaj2, hbe, hboj, hkj0, hvaj1, hvaj2, ej0, ej1, ej2, ej3⟩ := at_TabAtom (ht1.ext he3) (show j < t.atoms.length by omega)
          obtain ⟨Avaj1, cvaj1, rfl, -, -⟩ := hvaj1.form
          obtain ⟨Avaj2, cvaj2, rfl, -, -⟩ := hvaj2.form
          injection hbe with hbe
          injection hbe with hb1 hb2
          subst hb1 hb2
          have y0 : (0 : Int) ≤ (j : Int) := by omega
          have y1 : (j : Int) < (t.atoms.length : Int) := by omega
          have q9 : decide (j < k) = true := decide_eq_true hjk
          have HGj := hide (gA_at t.atoms j (by omega))
          have f0 := ((hx2.trans hx3).cell hbo1).trans e0
          have f1 := ((hx2.trans hx3).cell hbo1).trans e1
          have f2 := ((hx2.trans hx3).cell hbo1).trans e2
          have f3 := ((hx2.trans hx3).cell hbo1).trans e3
          go_upto_region 11 with fail
          have hS : ∀ w', Ext w3 w' → ∀ bb oo, bb < w3.heap.size → w'.cell? ⟨bb, oo, none⟩ = w3.cell? ⟨bb, oo, none⟩ := fun w' hx bb oo hb => hx.cell hb
          refine wp_region_plan (fun w' => Ext w3 w') 10 (.float 0 (.float 1 (.float 2 (.float 3 (.float 4 (.float 5 (.float 6 (.float 7 (.float 8 (.float 9 (.tail 10))))))))))) (by kernel_rfl) (by kernel_rfl) (Ext.refl _).drew ?_
          iterate 10 ((refine Plan.float_step (v := ?_) rfl (by rfl) (fun _ _ _ h => h) (fun w' hSw => ?_) ?_; rotate_left; · (go_simp; try with_reducible rfl)); (try simp only [Act.put, List.setIfInBounds_toArray, List.set_cons_zero, List.set_cons_succ]))
          refine Plan.tail_step ?_
          simp only [List.drop_succ_cons, List.drop_zero]
          clear hS
          go_wp2_with fail
          refine (specSameAtom_any t.atoms[j] t.atoms[k] _ _ _ _ _ (hvaj1.ext Ext.auto) (hvaj2.ext Ext.auto) ((hva1.ext (hx2.trans hx3)).ext Ext.auto) ((hva2.ext (hx2.trans hx3)).ext Ext.auto)).mono ?_
          rintro e w4 ⟨rfl, hy⟩
          have hx4 : Ext w3 w4 := Ext.trans Ext.auto hy
          clear hy
          cases qs : decide (t.atoms[j] = t.atoms[k])
          · have HN := hide (allB_next (f := fun i => !decide (gA t.atoms i = gA t.atoms k)) HTj.out (by rw [HGj.out, HG.out, qs]; rfl))
            go_wp2_with fail
            go_roundw
            case rel => exact ⟨j + 1, by omega, by go_num, hx3.trans hx4, HN.out⟩
            case measure => (simp [intOf]; try omega)
          · have HF := hide (show tabOkB t = false by rw [HV.out]; exact allB_no hlt (by unfold atomAtOk freshB; rw [allB_no (k := j) hjk (by rw [HGj.out, HG.out, qs]; rfl)]; simp))
            go_wp2
            go_ret
            exact ⟨by rw [HF.out]; rfl, he3.trans hx4⟩
        · have q9 : decide (j < k) = false := decide_eq_false hjk
          have HJ := hide (show j = k by omega)
          have HN := hide (allB_next HT.out (show atomAtOk t.atoms k = true by unfold atomAtOk freshB; rw [HG.out, q0]; exact allB_yes (fun i hi => by have := HTj.out i (by omega); rw [← HG.out]; exact this)))
          go_wp2_with fail
          go_roundw
          case rel => exact ⟨k + 1, by omega, by go_num, (hx0.trans hx2).trans hx3, HN.out⟩
          case measure => (simp [intOf]; try omega)
    · obtain rfl : k = t.atoms.length := by omega
      have HF := hide (show tabOkB t = true by rw [HV.out]; exact allB_yes HT.out)
      go_wp2
      go_ret
      exact ⟨by rw [HF.out]; rfl, he⟩

end Go.Proofs.Ytdmbgljkogpmdaa
