/-
  SymNewLaw
-/
import Derived.Test.YtmbclopkopfngaaQDrawTV
import Derived.Test.YtmbclopkopfngaaQLaT
import Derived.Test.YtmbclopkopfngaaQConstW
import Derived.Test.YtmbclopkopfngaaQValI
import Derived.Test.YtmbclopkopfngaaQNewI
import Derived.Test.YtmbclopkopfngaaQNewS
import Derived.Test.YtmbclopkopfngaaQTabF
import Derived.Test.YtmbclopkopfngaaQByteLib
import Derived.Test.YtmbclopkopfngaaQTy
import Derived.Deep.DeepCutAuto
namespace Go.Proofs.Ytmbclopkopfngaa
open Go.RowKit

set_option linter.unusedVariables false
set_option linter.unusedSimpArgs false
set_option maxRecDepth 100000

theorem polEval_word (p : TrmPoly) (vals : List Int) : wordB (polEval p vals) = true := by
  unfold polEval
  split
  · exact wordB_iff.2 (evalSum_word _ _)
  · decide

theorem four {R : List Int} (h : R.length = 4) : ∃ a b c d, R = [a, b, c, d] := by
  match R, h with
  | [a, b, c, d], _ => exact ⟨a, b, c, d, rfl⟩
theorem newTab_vals {R l i : List Int} (h : R.length = 4) (hr : wordsB R = true) (hl : wordsB l = true) (hi : wordsB i = true) : tabVals newTab R l i = R := by
  obtain ⟨a, b, c, d, rfl⟩ := four h
  unfold tabVals
  rw [newTab_ok, hr, hl, hi]
  simp [valsOf, newTab, upL, regAtom, atomVal, wAt, gN]
theorem polEval_at {R : List Int} (hr : wordsB R = true) {k : Int} (h0 : 0 ≤ k) (h1 : k < 200) : polEval (polK k) R = wAt R k := by
  have hp : polOkB (polK k) = true := (polK_ok h0 h1 (by omega)).1
  have hw := wAt_word hr k
  unfold polEval
  rw [hp, hr]
  show ((0 : Int) + (1 * wAt R k) % 65536) % 65536 = wAt R k
  omega
theorem newRegs_vals {R : List Int} (h : R.length = 4) (hr : wordsB R = true) : newRegs.map (fun p => polEval p R) = R := by
  have e : newRegs = [polK 0, polK 1, polK 2, polK 3] := rfl
  rw [e]
  simp only [List.map]
  rw [polEval_at hr (by omega) (by omega), polEval_at hr (by omega) (by omega), polEval_at hr (by omega) (by omega), polEval_at hr (by omega) (by omega)]
  obtain ⟨a, b, c, d, rfl⟩ := four h
  simp [wAt, gN]
theorem newRegs_len : newRegs.length = 4 := rfl
theorem regs4 (r : List Int) : ((wrapL r ++ [5, 5, 5, 5]).take 4).length = 4 ∧ wordsB ((wrapL r ++ [5, 5, 5, 5]).take 4) = true := by
  refine ⟨by simp [wrapL], wordsB_iff.2 fun x hx => ?_⟩
  have hx := List.mem_of_mem_take hx
  rcases List.mem_append.1 hx with hx | hx
  · unfold wrapL at hx
    obtain ⟨y, -, rfl⟩ := List.mem_map.1 hx
    show 0 ≤ y % 65536 ∧ y % 65536 < 65536
    omega
  · simp at hx; omega
theorem map_take {α β : Type} {f : α → β} {l : List α} {k : Nat} (h : k < l.length) : (l.take (k + 1)).map f = (l.take k).map f ++ [f l[k]] := by
  rw [List.take_succ_eq_append_getElem h, List.map_append]; rfl

theorem implSymNew_as {nt : TabTab} {np : List TrmPoly} (h1 : nt = newTab) (h2 : np = newRegs) (w : World) : Calls Try.prog 19 #[] w fun e w' => ∃ r1 r2 F1 F2, e = .returned (.tuple #[.agg #[r1], r2]) ∧ OwnSl w' r1 nt.atoms F1 ∧ OwnSl w' r2 np F2 ∧ Fr w w' (F1 ++ F2) ∧ Ext w w' := by
  subst h1 h2
  exact implSymNew_any w

theorem specSymNew_as {nt : TabTab} {np : List TrmPoly} (h1 : nt = newTab) (h2 : np = newRegs) (w : World) : Calls Try.prog 20 #[] w fun e w' => ∃ r1 r2 F1 F2, e = .returned (.tuple #[.agg #[r1], r2]) ∧ OwnSl w' r1 nt.atoms F1 ∧ OwnSl w' r2 np F2 ∧ Fr w w' (F1 ++ F2) ∧ Ext w w' ∧ Room w.heap.size 4 30 w' r1 := by
  subst h1 h2
  exact specSymNew_any w

set_option maxHeartbeats 32000000 in
theorem lawSymNew_any (code : List UInt8) (vcode : Value) (w : World) (hcode : Sl w (Old w) vcode code)  :
    Calls Try.prog 5 #[vcode] w fun e w' => e = .returned (.bool true) ∧ Ext w w' := by
  obtain ⟨Acode, ccode, rfl, hlcode, hmcode⟩ := hcode.form
  obtain ⟨i0a, hi_, hz0, hz1, hz2⟩ := info_parts infInt
  have HIa := hide hi_
  have HZ0a := hide hz0
  have HZ1a := hide hz1
  have HZ2a := hide hz2
  clear hi_ hz0 hz1 hz2
  by_cases hbig : (1048576 : Int) < (code.length : Int)
  · have qb0 : decide ((1048576 : Int) < (code.length : Int)) = true := decide_eq_true hbig
    go_enter Try.func5, Try.ntmps5
    go_wp2
    go_ret
    exact ⟨rfl, Ext.refl _⟩
  have qb0 : decide ((1048576 : Int) < (code.length : Int)) = false := decide_eq_false hbig
  clear hbig
  go_enter Try.func5, Try.ntmps5
  have he0 : Ext w w := Ext.refl _
  have hs0 : w.heap.size ≤ w.heap.size := Nat.le_refl _
  go_wp2_with fail
  refine (drawTabVals_any code _ _ (hcode.ext (Ext.trans he0 Ext.auto))).mono ?_
  rintro e w1 ⟨⟨L, r, l, i, A1, A2, A3, A4, c1, c2, c3, c4, rfl, -, S_r, S_l, S_i, -, hr5, hw0, hw1, hw2⟩, hy⟩
  have hy_ : Ext w w1 := Ext.trans Ext.auto hy
  clear hy
  have hx1 : Ext w w1 := Ext.trans (Ext.auto) hy_
  have hs1 := hx1.size
  have he1 : Ext w w1 := he0.trans hx1
  clear hy_
  have HW0 := hide hw0
  have hwl : wordsB l = true := wordsB_iff.2 hw1
  have hwi : wordsB i = true := wordsB_iff.2 hw2
  clear hw0 hw1 hw2
  obtain ⟨R, hR⟩ : ∃ R, R = (wrapL r ++ [5, 5, 5, 5]).take 4 := ⟨_, rfl⟩
  have hR4 := regs4 r
  rw [← hR] at hR4
  have HTV := hide (newTab_vals hR4.1 hR4.2 hwl hwi)
  have HRV := hide (newRegs_vals hR4.1 hR4.2)
  have HR := hide hR
  have HR4 := hide hR4.1
  clear hR hR4 hwl hwi
  have HNO := hide newTab_ok
  have hnb : Bulk.blk newTab ≤ 30000 := (tab_blk newTab_ok).2
  have hnl : newRegs.length ≤ 4 := by rw [newRegs_len]; exact Nat.le_refl _
  have HNL := hide newRegs_len
  obtain ⟨nt, hnt⟩ : ∃ nt, nt = newTab := ⟨_, rfl⟩
  obtain ⟨np, hnp⟩ : ∃ np, np = newRegs := ⟨_, rfl⟩
  rw [← hnt] at HTV HNO hnb
  rw [← hnp] at HRV HNL hnl
  have HNT := hide (And.intro hnt hnp)
  clear hnt hnp
  go_upto_region 4 with fail
  have he2 : Ext w (w1.alloc (.cells #[.slice A1 L.length c1] 25)) := Ext.hold he1
  have hx2 : Ext w1 (w1.alloc (.cells #[.slice A1 L.length c1] 25)) := Ext.auto
  have hs2 : w1.heap.size + 1 ≤ ((w1.alloc (.cells #[.slice A1 L.length c1] 25))).heap.size := by simp
  have hBt_2 : Bx (w1.alloc (.cells #[.slice A1 L.length c1] 25)) (w1.heap.size) [.slice A1 L.length c1] := Bx.new w1 #[.slice A1 L.length c1] 25
  have hFt_2 : ∀ oo, (w1.alloc (.cells #[.slice A1 L.length c1] 25)).frozen? ⟨w1.heap.size, oo, none⟩ = false := fz_new w1 #[.slice A1 L.length c1] 25 rfl
  generalize (w1.alloc (.cells #[.slice A1 L.length c1] 25)) = w2 at *
  go_wp2_with fail
  refine (implSymNew_as HNT.out.1 HNT.out.2 _).mono ?_
  rintro e w3 ⟨r1_, r2_, F1_, F2_, rfl, ho1_, ho2_, hf_, hy⟩
  have hy_ : Ext w2 w3 := Ext.trans Ext.auto hy
  clear hy
  have hx3 : Ext w2 w3 := Ext.trans (Ext.auto) hy_
  have hs3 := hx3.size
  have he3 : Ext w w3 := he2.trans hx3
  have hBt_3 : Bx w3 (w1.heap.size) [.slice A1 L.length c1] := hx3.bx hBt_2 (by omega)
  have hFt_3 : ∀ oo, w3.frozen? ⟨w1.heap.size, oo, none⟩ = false := fun oo => (hx3.frozen (by omega)).trans (hFt_2 oo)
  clear hBt_2 hFt_2
  clear hy_
  have S_n := ho1_.old ⟨(List.nodup_append.1 hf_.1).1, fun b hb => hf_.2 b (by simp [hb])⟩
  have S_p := ho2_.old ⟨(List.nodup_append.1 hf_.1).2.1, fun b hb => hf_.2 b (by simp [hb])⟩
  obtain ⟨A5, c5, rfl, -, -⟩ := S_n.form
  obtain ⟨A6, c6, rfl, -, -⟩ := S_p.form
  clear ho1_ ho2_ hf_
  go_upto_region 5 with fail
  have he4 : Ext w (w3.alloc (.cells #[.slice A5 nt.atoms.length c5] 25)) := Ext.hold he3
  have hx4 : Ext w3 (w3.alloc (.cells #[.slice A5 nt.atoms.length c5] 25)) := Ext.auto
  have hs4 : w3.heap.size + 1 ≤ ((w3.alloc (.cells #[.slice A5 nt.atoms.length c5] 25))).heap.size := by simp
  have hBt_4 : Bx (w3.alloc (.cells #[.slice A5 nt.atoms.length c5] 25)) (w1.heap.size) [.slice A1 L.length c1] := Bx.hold hBt_3
  have hFt_4 : ∀ oo, (w3.alloc (.cells #[.slice A5 nt.atoms.length c5] 25)).frozen? ⟨w1.heap.size, oo, none⟩ = false := fz_hold hFt_3
  have hBn_4 : Bx (w3.alloc (.cells #[.slice A5 nt.atoms.length c5] 25)) (w3.heap.size) [.slice A5 nt.atoms.length c5] := Bx.new w3 #[.slice A5 nt.atoms.length c5] 25
  have hFn_4 : ∀ oo, (w3.alloc (.cells #[.slice A5 nt.atoms.length c5] 25)).frozen? ⟨w3.heap.size, oo, none⟩ = false := fz_new w3 #[.slice A5 nt.atoms.length c5] 25 rfl
  generalize (w3.alloc (.cells #[.slice A5 nt.atoms.length c5] 25)) = w4 at *
  clear hBt_3 hFt_3
  go_wp2_with fail
  refine (specSymNew_as HNT.out.1 HNT.out.2 _).mono ?_
  rintro e w5 ⟨r1_, r2_, F1_, F2_, rfl, ho1_, ho2_, hf_, hy, -⟩
  have hy_ : Ext w4 w5 := Ext.trans Ext.auto hy
  clear hy
  have hx5 : Ext w4 w5 := Ext.trans (Ext.auto) hy_
  have hs5 := hx5.size
  have he5 : Ext w w5 := he4.trans hx5
  have hBt_5 : Bx w5 (w1.heap.size) [.slice A1 L.length c1] := hx5.bx hBt_4 (by omega)
  have hFt_5 : ∀ oo, w5.frozen? ⟨w1.heap.size, oo, none⟩ = false := fun oo => (hx5.frozen (by omega)).trans (hFt_4 oo)
  have hBn_5 : Bx w5 (w3.heap.size) [.slice A5 nt.atoms.length c5] := hx5.bx hBn_4 (by omega)
  have hFn_5 : ∀ oo, w5.frozen? ⟨w3.heap.size, oo, none⟩ = false := fun oo => (hx5.frozen (by omega)).trans (hFn_4 oo)
  clear hBt_4 hFt_4 hBn_4 hFn_4
  clear hy_
  have S_m := ho1_.old ⟨(List.nodup_append.1 hf_.1).1, fun b hb => hf_.2 b (by simp [hb])⟩
  have S_q := ho2_.old ⟨(List.nodup_append.1 hf_.1).2.1, fun b hb => hf_.2 b (by simp [hb])⟩
  obtain ⟨A7, c7, rfl, -, -⟩ := S_m.form
  obtain ⟨A8, c8, rfl, -, -⟩ := S_q.form
  clear ho1_ ho2_ hf_
  go_upto_region 6 with fail
  have he6 : Ext w (w5.alloc (.cells #[.slice A7 nt.atoms.length c7] 25)) := Ext.hold he5
  have hx6 : Ext w5 (w5.alloc (.cells #[.slice A7 nt.atoms.length c7] 25)) := Ext.auto
  have hs6 : w5.heap.size + 1 ≤ ((w5.alloc (.cells #[.slice A7 nt.atoms.length c7] 25))).heap.size := by simp
  have hBt_6 : Bx (w5.alloc (.cells #[.slice A7 nt.atoms.length c7] 25)) (w1.heap.size) [.slice A1 L.length c1] := Bx.hold hBt_5
  have hFt_6 : ∀ oo, (w5.alloc (.cells #[.slice A7 nt.atoms.length c7] 25)).frozen? ⟨w1.heap.size, oo, none⟩ = false := fz_hold hFt_5
  have hBn_6 : Bx (w5.alloc (.cells #[.slice A7 nt.atoms.length c7] 25)) (w3.heap.size) [.slice A5 nt.atoms.length c5] := Bx.hold hBn_5
  have hFn_6 : ∀ oo, (w5.alloc (.cells #[.slice A7 nt.atoms.length c7] 25)).frozen? ⟨w3.heap.size, oo, none⟩ = false := fz_hold hFn_5
  have hBm_6 : Bx (w5.alloc (.cells #[.slice A7 nt.atoms.length c7] 25)) (w5.heap.size) [.slice A7 nt.atoms.length c7] := Bx.new w5 #[.slice A7 nt.atoms.length c7] 25
  have hFm_6 : ∀ oo, (w5.alloc (.cells #[.slice A7 nt.atoms.length c7] 25)).frozen? ⟨w5.heap.size, oo, none⟩ = false := fz_new w5 #[.slice A7 nt.atoms.length c7] 25 rfl
  generalize (w5.alloc (.cells #[.slice A7 nt.atoms.length c7] 25)) = w6 at *
  clear hBt_5 hFt_5 hBn_5 hFn_5
  have yn : w3.heap.size < w6.heap.size := by omega
  have xn0 : w6.cell? ⟨w3.heap.size, 0, none⟩ = some (.slice A5 nt.atoms.length c5) := hBn_6 0 _ rfl
  have ym : w5.heap.size < w6.heap.size := by omega
  have xm0 : w6.cell? ⟨w5.heap.size, 0, none⟩ = some (.slice A7 nt.atoms.length c7) := hBm_6 0 _ rfl
  go_wp2_with fail
  refine (laTab_any nt nt _ _ _ (S_n.ext (Ext.trans (Ext.trans (Ext.trans hx4 hx5) hx6) Ext.auto)) (S_m.ext (Ext.trans hx6 Ext.auto))).mono ?_
  rintro e w7 ⟨rfl, hy⟩
  clear xn0 yn
  clear xm0 ym
  have hy_ : Ext w6 w7 := Ext.trans Ext.auto hy
  clear hy
  have hx7 : Ext w6 w7 := Ext.trans (Ext.auto) hy_
  have hs7 := hx7.size
  have he7 : Ext w w7 := he6.trans hx7
  have hBt_7 : Bx w7 (w1.heap.size) [.slice A1 L.length c1] := hx7.bx hBt_6 (by omega)
  have hFt_7 : ∀ oo, w7.frozen? ⟨w1.heap.size, oo, none⟩ = false := fun oo => (hx7.frozen (by omega)).trans (hFt_6 oo)
  have hBn_7 : Bx w7 (w3.heap.size) [.slice A5 nt.atoms.length c5] := hx7.bx hBn_6 (by omega)
  have hFn_7 : ∀ oo, w7.frozen? ⟨w3.heap.size, oo, none⟩ = false := fun oo => (hx7.frozen (by omega)).trans (hFn_6 oo)
  have hBm_7 : Bx w7 (w5.heap.size) [.slice A7 nt.atoms.length c7] := hx7.bx hBm_6 (by omega)
  have hFm_7 : ∀ oo, w7.frozen? ⟨w5.heap.size, oo, none⟩ = false := fun oo => (hx7.frozen (by omega)).trans (hFm_6 oo)
  clear hBt_6 hFt_6 hBn_6 hFn_6 hBm_6 hFm_6
  clear hy_
  rw [show decide (nt = nt) = true from by simp]
  have yn : w3.heap.size < w7.heap.size := by omega
  have xn0 : w7.cell? ⟨w3.heap.size, 0, none⟩ = some (.slice A5 nt.atoms.length c5) := hBn_7 0 _ rfl
  go_wp2_with fail
  refine (laPolys_any np np _ _ _ (S_p.ext (Ext.trans (Ext.trans (Ext.trans (Ext.trans hx4 hx5) hx6) hx7) Ext.auto)) (S_q.ext (Ext.trans (Ext.trans hx6 hx7) Ext.auto))).mono ?_
  rintro e w8 ⟨rfl, hy⟩
  clear xn0 yn
  have hy_ : Ext w7 w8 := Ext.trans Ext.auto hy
  clear hy
  have hx8 : Ext w7 w8 := Ext.trans (Ext.auto) hy_
  have hs8 := hx8.size
  have he8 : Ext w w8 := he7.trans hx8
  have hBt_8 : Bx w8 (w1.heap.size) [.slice A1 L.length c1] := hx8.bx hBt_7 (by omega)
  have hFt_8 : ∀ oo, w8.frozen? ⟨w1.heap.size, oo, none⟩ = false := fun oo => (hx8.frozen (by omega)).trans (hFt_7 oo)
  have hBn_8 : Bx w8 (w3.heap.size) [.slice A5 nt.atoms.length c5] := hx8.bx hBn_7 (by omega)
  have hFn_8 : ∀ oo, w8.frozen? ⟨w3.heap.size, oo, none⟩ = false := fun oo => (hx8.frozen (by omega)).trans (hFn_7 oo)
  have hBm_8 : Bx w8 (w5.heap.size) [.slice A7 nt.atoms.length c7] := hx8.bx hBm_7 (by omega)
  have hFm_8 : ∀ oo, w8.frozen? ⟨w5.heap.size, oo, none⟩ = false := fun oo => (hx8.frozen (by omega)).trans (hFm_7 oo)
  clear hBt_7 hFt_7 hBn_7 hFn_7 hBm_7 hFm_7
  clear hy_
  rw [show decide (np = np) = true from by simp]
  have yn : w3.heap.size < w8.heap.size := by omega
  have xn0 : w8.cell? ⟨w3.heap.size, 0, none⟩ = some (.slice A5 nt.atoms.length c5) := hBn_8 0 _ rfl
  go_wp2_with fail
  refine (implTabOk_any nt _ _ (S_n.ext (Ext.trans (Ext.trans (Ext.trans (Ext.trans (Ext.trans hx4 hx5) hx6) hx7) hx8) Ext.auto)) (by omega)).mono ?_
  rintro e w9 ⟨rfl, hy⟩
  clear xn0 yn
  have hy_ : Ext w8 w9 := Ext.trans Ext.auto hy
  clear hy
  have hx9 : Ext w8 w9 := Ext.trans (Ext.auto) hy_
  have hs9 := hx9.size
  have he9 : Ext w w9 := he8.trans hx9
  have hBt_9 : Bx w9 (w1.heap.size) [.slice A1 L.length c1] := hx9.bx hBt_8 (by omega)
  have hFt_9 : ∀ oo, w9.frozen? ⟨w1.heap.size, oo, none⟩ = false := fun oo => (hx9.frozen (by omega)).trans (hFt_8 oo)
  have hBn_9 : Bx w9 (w3.heap.size) [.slice A5 nt.atoms.length c5] := hx9.bx hBn_8 (by omega)
  have hFn_9 : ∀ oo, w9.frozen? ⟨w3.heap.size, oo, none⟩ = false := fun oo => (hx9.frozen (by omega)).trans (hFn_8 oo)
  have hBm_9 : Bx w9 (w5.heap.size) [.slice A7 nt.atoms.length c7] := hx9.bx hBm_8 (by omega)
  have hFm_9 : ∀ oo, w9.frozen? ⟨w5.heap.size, oo, none⟩ = false := fun oo => (hx9.frozen (by omega)).trans (hFm_8 oo)
  clear hBt_8 hFt_8 hBn_8 hFn_8 hBm_8 hFm_8
  clear hy_
  rw [HNO.out]
  go_wp2_with fail
  refine (laWords_any r _ _ (S_r.ext (Ext.trans (Ext.trans (Ext.trans (Ext.trans (Ext.trans (Ext.trans (Ext.trans (Ext.trans hx2 hx3) hx4) hx5) hx6) hx7) hx8) hx9) Ext.auto)) (fun x hx => by have := HW0.out x hx; omega) (by omega)).mono ?_
  rintro e wa ⟨v_, Fs_, xs_, rfl, hAw⟩
  obtain ⟨F7, hO7, -⟩ := hAw.done
  obtain ⟨Aw, cw, rfl, hlw_, hmw_⟩ := hO7.sl.form
  clear hO7
  have hwl5 : (wrapL r).length ≤ 5 := by unfold wrapL; rw [List.length_map]; exact hr5
  have hrow5 : FRow (wa.alloc (.cells #[.int .i64 5, .int .i64 5, .int .i64 5, .int .i64 5] 3)) wa.heap.size 0 ([5, 5, 5, 5] : List Int) := FRow.built (α := Int) wa 3 #[.int .i64 5, .int .i64 5, .int .i64 5, .int .i64 5] [5, 5, 5, 5] rfl rfl (by
    intro i a u ha hu
    rcases i with _ | _ | _ | _ | i <;> simp at ha hu
    all_goals (subst ha; subst hu; exact ⟨rfl, by unfold Fits; omega⟩)) rfl
  have hsl5 : Sl (wa.alloc (.cells #[.int .i64 5, .int .i64 5, .int .i64 5, .int .i64 5] 3)) _ (.slice (some ⟨wa.heap.size, 0, none⟩) 4 4) ([5, 5, 5, 5] : List Int) := hrow5.sl rfl (Nat.le_refl _) (by simp [maxLen])
  generalize hwq : wrapL r = wq at *
  have HWQ := hide hwq
  clear hwq hrow5
  go_upto_region 9 with (at_builtin; refine wpList_append_flat (α := Int) (w0 := w9) rfl _ _ 39 rfl i0a _ 8 Try.underlying39 HIa.out HZ0a.out HZ1a.out HZ2a.out rfl (hAw.call Ext.auto) rfl _ [5, 5, 5, 5] _ rfl hsl5 (by simp [maxLen]; omega) (by simp; omega) ?_; intro v' w9 Fs' xs' hA9; obtain ⟨Q, hQ⟩ : ∃ Q, Q = wq ++ [5, 5, 5, 5] := ⟨_, rfl⟩; rw [← hQ] at hA9; obtain ⟨F9, hO9, hF9⟩ := hA9.done; have hSQ := hO9.old hF9; obtain ⟨A9, c9, rfl, hl9, hm9⟩ := hO9.sl.form; have hQ4 : 4 ≤ Q.length := (by rw [hQ]; simp); have hc4 : 4 ≤ c9 := (by omega); have HQ := hide hQ; clear hQ hO9 hF9)
  obtain ⟨w10, hw9⟩ : ∃ w10 : World, w10 = w9 := ⟨_, rfl⟩
  subst hw9
  have hy_ : Ext w9 w10 := hA9.ext
  have S_R_ := Sl.take_ hSQ hQ4
  have hRQ : Q.take 4 = R := by rw [HQ.out, HR.out]
  rw [hRQ] at S_R_
  clear hSQ hRQ hA9 hAw hsl5
  have hx10 : Ext w9 w10 := Ext.trans (Ext.auto) hy_
  have hs10 := hx10.size
  have he10 : Ext w w10 := he9.trans hx10
  have hBt_10 : Bx w10 (w1.heap.size) [.slice A1 L.length c1] := hx10.bx hBt_9 (by omega)
  have hFt_10 : ∀ oo, w10.frozen? ⟨w1.heap.size, oo, none⟩ = false := fun oo => (hx10.frozen (by omega)).trans (hFt_9 oo)
  have hBn_10 : Bx w10 (w3.heap.size) [.slice A5 nt.atoms.length c5] := hx10.bx hBn_9 (by omega)
  have hFn_10 : ∀ oo, w10.frozen? ⟨w3.heap.size, oo, none⟩ = false := fun oo => (hx10.frozen (by omega)).trans (hFn_9 oo)
  have hBm_10 : Bx w10 (w5.heap.size) [.slice A7 nt.atoms.length c7] := hx10.bx hBm_9 (by omega)
  have hFm_10 : ∀ oo, w10.frozen? ⟨w5.heap.size, oo, none⟩ = false := fun oo => (hx10.frozen (by omega)).trans (hFm_9 oo)
  clear hBt_9 hFt_9 hBn_9 hFn_9 hBm_9 hFm_9
  clear hy_
  have S_R := S_R_
  clear S_R_
  have yn : w3.heap.size < w10.heap.size := by omega
  have xn0 : w10.cell? ⟨w3.heap.size, 0, none⟩ = some (.slice A5 nt.atoms.length c5) := hBn_10 0 _ rfl
  go_wp2_with fail
  refine (implTabVals_any nt R l i _ _ _ _ _ (S_n.ext (Ext.trans (Ext.trans (Ext.trans (Ext.trans (Ext.trans (Ext.trans (Ext.trans hx4 hx5) hx6) hx7) hx8) hx9) hx10) Ext.auto)) (S_R.ext (Ext.trans (Ext.refl _) Ext.auto)) (S_l.ext (Ext.trans (Ext.trans (Ext.trans (Ext.trans (Ext.trans (Ext.trans (Ext.trans (Ext.trans (Ext.trans hx2 hx3) hx4) hx5) hx6) hx7) hx8) hx9) hx10) Ext.auto)) (S_i.ext (Ext.trans (Ext.trans (Ext.trans (Ext.trans (Ext.trans (Ext.trans (Ext.trans (Ext.trans (Ext.trans hx2 hx3) hx4) hx5) hx6) hx7) hx8) hx9) hx10) Ext.auto)) (by omega)).mono ?_
  rintro e w11 ⟨⟨r_, F_, rfl, ho_, hf_⟩, hy⟩
  clear xn0 yn
  have hy_ : Ext w10 w11 := Ext.trans Ext.auto hy
  clear hy
  have hx11 : Ext w10 w11 := Ext.trans (Ext.auto) hy_
  have hs11 := hx11.size
  have he11 : Ext w w11 := he10.trans hx11
  have hBt_11 : Bx w11 (w1.heap.size) [.slice A1 L.length c1] := hx11.bx hBt_10 (by omega)
  have hFt_11 : ∀ oo, w11.frozen? ⟨w1.heap.size, oo, none⟩ = false := fun oo => (hx11.frozen (by omega)).trans (hFt_10 oo)
  have hBn_11 : Bx w11 (w3.heap.size) [.slice A5 nt.atoms.length c5] := hx11.bx hBn_10 (by omega)
  have hFn_11 : ∀ oo, w11.frozen? ⟨w3.heap.size, oo, none⟩ = false := fun oo => (hx11.frozen (by omega)).trans (hFn_10 oo)
  have hBm_11 : Bx w11 (w5.heap.size) [.slice A7 nt.atoms.length c7] := hx11.bx hBm_10 (by omega)
  have hFm_11 : ∀ oo, w11.frozen? ⟨w5.heap.size, oo, none⟩ = false := fun oo => (hx11.frozen (by omega)).trans (hFm_10 oo)
  clear hBt_10 hFt_10 hBn_10 hFn_10 hBm_10 hFm_10
  clear hy_
  rw [HTV.out] at ho_
  have S_v := ho_.old hf_
  obtain ⟨A10, c10, rfl, -, -⟩ := S_v.form
  clear ho_ hf_
  go_upto_region 11 with fail
  have hA0 : App w11 (w11.alloc (.cells #[] 3)) 3 (.slice (some ⟨w11.heap.size, 0, none⟩) 0 0) ([] : List Int) [] [] := App.emptyAt w11 3 _ rfl
  generalize (w11.alloc (.cells #[] 3)) = wy at *
  go_wp2
  go_loopw [12, 13] (fun vo i wz => ∃ (k : Nat) (v : Value) (L : List Int) (Fs : List (List Nat)) (xs : List Value), vo = v ∧ k ≤ np.length ∧ i = .int .i64 k ∧ App w11 wz 3 v L Fs xs ∧ L.length ≤ k ∧ Hid (L = (np.take k).map (fun p => polEval p R))) (fun _ i _ => np.length - (intOf i).toNat)
  case atStart => exact ⟨0, _, [], [], [], rfl, by omega, rfl, hA0, by simp, hide rfl⟩
  case round =>
    clear hA0
    obtain ⟨w12, hwr⟩ : ∃ w12 : World, w12 = wr := ⟨_, rfl⟩
    subst hwr
    obtain ⟨k, v, L, Fs, xs, rfl, hk, rfl, hA, hLk, HL⟩ := hrel
    have hy := hA.ext
    obtain ⟨F7, hO7, -⟩ := hA.done
    obtain ⟨A7_, c7_, rfl, -, -⟩ := hO7.sl.form
    clear hO7
    have hx12 : Ext w11 w12 := Ext.trans (Ext.auto) hy
    have hs12 := hx12.size
    have he12 : Ext w w12 := he11.trans hx12
    clear hy
    by_cases hlt : k < np.length
    · 
      obtain ⟨b, off, v1, rfl, hbo, hk0, hv1, e0⟩ := at_TrmPoly (S_p.ext (Ext.trans (Ext.trans (Ext.trans (Ext.trans (Ext.trans (Ext.trans (Ext.trans (Ext.trans (Ext.trans hx4 hx5) hx6) hx7) hx8) hx9) hx10) hx11) hx12) Ext.auto)) hlt
      obtain ⟨B1, d1, rfl, -, -⟩ := hv1.form
      have hbo1 : b < w12.heap.size := hbo
      have z0 : (0 : Int) ≤ (k : Int) := by omega
      have z1 : (k : Int) < (np.length : Int) := by omega
      have HN := hide (map_take (f := fun p => polEval p R) hlt)
      go_wp2_with fail
      refine (implPolEval_any np[k] R _ _ _ (hv1.ext Ext.auto) (S_v.ext (Ext.trans hx12 Ext.auto))).mono ?_
      rintro e wb ⟨rfl, hyb⟩
      replace hA := hA.call hyb
      have hfw := wordB_iff.1 (polEval_word np[k] R)
      have HN2 := hide (show (np.take (k + 1)).map (fun p => polEval p R) = (np.take k).map (fun p => polEval p R) ++ [polEval np[k] R] from HN.out)
      generalize polEval np[k] R = x at *
      have hfit : Fits x := by unfold Fits; omega
      go_upto_region 13 with (at_builtin; refine wpList_append_push2 (α := Int) (w0 := w11) (wr := wb) rfl _ _ 39 rfl i0a _ 8 Try.underlying39 HIa.out HZ0a.out HZ1a.out HZ2a.out rfl (by decide) hA rfl x #[.int .i64 x] 3 [] _ rfl Ext.auto ⟨⟨rfl, hfit⟩, rfl⟩ (Fr.nil _ _) (by repeat (first | (exact fun _ h => absurd h (List.not_mem_nil)) | (refine List.forall_mem_cons.2 ⟨rfl, ?_⟩))) (by unfold maxLen; omega) (by omega) ?_; intro v' w9 xs' hA9 hg9 hb9)
      go_wp2_with fail
      go_roundw
      case rel => exact ⟨k + 1, _, L ++ [x], _, _, rfl, by omega, by go_num, hA9, by simp; omega, hide (by rw [HN2.out, HL.out])⟩
      case measure => simp [intOf]; omega
    · 
      obtain rfl : k = np.length := by omega
      have HT := hide (show L = R by rw [HL.out, List.take_length]; exact HRV.out)
      obtain ⟨F9_, hO9_, hF9_⟩ := hA.done
      have S_L := hO9_.old hF9_
      have qd : decide (L = R) = true := decide_eq_true HT.out
      go_wp2_with fail
      refine (laInts_any L R _ _ _ (S_L.ext (Ext.trans (Ext.refl _) Ext.auto)) (S_R.ext (Ext.trans (Ext.trans hx11 hx12) Ext.auto))).mono ?_
      rintro e w13 ⟨rfl, hy⟩
      have hy_ : Ext w12 w13 := Ext.trans Ext.auto hy
      clear hy
      have hx13 : Ext w12 w13 := Ext.trans (Ext.auto) hy_
      have hs13 := hx13.size
      have he13 : Ext w w13 := he12.trans hx13
      clear hy_
      rw [qd]
      go_wp2
      go_ret
      exact ⟨rfl, Ext.hold he13⟩

end Go.Proofs.Ytmbclopkopfngaa
