/-
  TabValsLaw
-/
import Derived.Test.YtmbclopkopfngaaWDrawTV
import Derived.Test.YtmbclopkopfngaaWCertLib
import Derived.Test.YtmbclopkopfngaaWValI
import Derived.Test.YtmbclopkopfngaaWValS
import Derived.Test.YtmbclopkopfngaaWMarkLib
import Derived.Test.YtmbclopkopfngaaWTabF
import Derived.Test.YtmbclopkopfngaaWTy
import Derived.Deep.DeepCutAuto
namespace Go.Proofs.Ytmbclopkopfngaa
open Go.RowKit

set_option linter.unusedVariables false
set_option linter.unusedSimpArgs false
set_option maxRecDepth 100000

theorem polEval_word (p : TrmPoly) (vals : List Int) : wordB (polEval p vals) = true := by
  unfold polEval
  split
  · exact wordB_iff.2 (evalSum_word _ _)
  · decide
theorem vals_some {t : TabTab} {r l i : List Int} (h : (tabVals t r l i).length ≠ 0) : tabOkB t = true ∧ wordsB r = true ∧ wordsB l = true ∧ wordsB i = true ∧ tabVals t r l i = valsOf r l i t.atoms := by
  unfold tabVals at h ⊢
  split at h
  · rename_i hc
    rw [if_pos hc]
    simp only [Bool.and_eq_true] at hc
    exact ⟨hc.1, hc.2.1, hc.2.2.1, hc.2.2.2, rfl⟩
  · simp at h

theorem laOk_any (w : World) : Calls Try.prog 10 #[] w fun e w' => e = .returned (.bool true) ∧ Ext w w' := by
  have q1 : inB 1 0 65535 = true := by decide
  go_enter Try.func10, Try.ntmps10
  go_wp2_with (go_at_call 32; refine (implWrdOk_any _ _).mono ?_; rintro e w' ⟨rfl, rfl⟩)
  go_ret
  exact ⟨rfl, Ext.refl _⟩

set_option maxHeartbeats 32000000 in
theorem lawTabVals_any (code : List UInt8) (vcode : Value) (w : World) (hcode : Sl w (Old w) vcode code)  :
    Calls Try.prog 4 #[vcode] w fun e w' => e = .returned (.bool true) ∧ Ext w w' := by
  obtain ⟨Acode, ccode, rfl, hlcode, hmcode⟩ := hcode.form
  by_cases hbig : (1048576 : Int) < (code.length : Int)
  · have qb0 : decide ((1048576 : Int) < (code.length : Int)) = true := decide_eq_true hbig
    go_enter Try.func4, Try.ntmps4
    go_wp2
    go_ret
    exact ⟨rfl, Ext.refl _⟩
  have qb0 : decide ((1048576 : Int) < (code.length : Int)) = false := decide_eq_false hbig
  clear hbig
  go_enter Try.func4, Try.ntmps4
  have he0 : Ext w w := Ext.refl _
  have hs0 : w.heap.size ≤ w.heap.size := Nat.le_refl _
  go_wp2_with fail
  refine (drawTabVals_any code _ _ (hcode.ext (Ext.trans he0 Ext.auto))).mono ?_
  rintro e w1 ⟨⟨L, r, l, i, A1, A2, A3, A4, c1, c2, c3, c4, rfl, S_t, S_r, S_l, S_i, hbl, -, -, -, -⟩, hy⟩
  have hy_ : Ext w w1 := Ext.trans Ext.auto hy
  clear hy
  have hx1 : Ext w w1 := Ext.trans (Ext.auto) hy_
  have hs1 := hx1.size
  have he1 : Ext w w1 := he0.trans hx1
  clear hy_
  obtain ⟨t, ht⟩ : ∃ t : TabTab, t.atoms = L := ⟨⟨L⟩, rfl⟩
  subst ht
  rw [← blk_tab] at hbl
  obtain ⟨V, hV⟩ : ∃ V, V = tabVals t r l i := ⟨_, rfl⟩
  obtain ⟨ok, hok⟩ : ∃ ok, ok = tabOkB t := ⟨_, rfl⟩
  have HL := hide (@vals_some t r l i)
  rw [← hV, ← hok] at HL
  have HV := hide hV
  have HOK := hide hok
  clear hV hok
  have qo : (ok != ok) = false := by simp
  obtain ⟨-, cr_, -, hlr_, hmr_⟩ := S_r.form
  obtain ⟨-, ct_, -, hlt_, hmt_⟩ := S_t.form
  unfold maxLen at hmr_ hmt_
  go_upto_region 4 with fail
  have he2 : Ext w (w1.alloc (.cells #[.slice A1 t.atoms.length c1] 25)) := Ext.hold he1
  have hx2 : Ext w1 (w1.alloc (.cells #[.slice A1 t.atoms.length c1] 25)) := Ext.auto
  have hs2 : w1.heap.size + 1 ≤ ((w1.alloc (.cells #[.slice A1 t.atoms.length c1] 25))).heap.size := by simp
  have hBt_2 : Bx (w1.alloc (.cells #[.slice A1 t.atoms.length c1] 25)) (w1.heap.size) [.slice A1 t.atoms.length c1] := Bx.new w1 #[.slice A1 t.atoms.length c1] 25
  have hFt_2 : ∀ oo, (w1.alloc (.cells #[.slice A1 t.atoms.length c1] 25)).frozen? ⟨w1.heap.size, oo, none⟩ = false := fz_new w1 #[.slice A1 t.atoms.length c1] 25 rfl
  generalize (w1.alloc (.cells #[.slice A1 t.atoms.length c1] 25)) = w2 at *
  have yt : w1.heap.size < w2.heap.size := by omega
  have xt0 : w2.cell? ⟨w1.heap.size, 0, none⟩ = some (.slice A1 t.atoms.length c1) := hBt_2 0 _ rfl
  go_wp2_with fail
  refine (implTabVals_any t r l i _ _ _ _ _ (S_t.ext (Ext.trans hx2 Ext.auto)) (S_r.ext (Ext.trans hx2 Ext.auto)) (S_l.ext (Ext.trans hx2 Ext.auto)) (S_i.ext (Ext.trans hx2 Ext.auto)) (by omega)).mono ?_
  rintro e w3 ⟨⟨r_, F_, rfl, ho_, hf_⟩, hy⟩
  clear xt0 yt
  have hy_ : Ext w2 w3 := Ext.trans Ext.auto hy
  clear hy
  have hx3 : Ext w2 w3 := Ext.trans (Ext.auto) hy_
  have hs3 := hx3.size
  have he3 : Ext w w3 := he2.trans hx3
  have hBt_3 : Bx w3 (w1.heap.size) [.slice A1 t.atoms.length c1] := hx3.bx hBt_2 (by omega)
  have hFt_3 : ∀ oo, w3.frozen? ⟨w1.heap.size, oo, none⟩ = false := fun oo => (hx3.frozen (by omega)).trans (hFt_2 oo)
  clear hBt_2 hFt_2
  clear hy_
  rw [← HV.out] at ho_
  have S_v := ho_.old hf_
  obtain ⟨A5, c5, rfl, -, -⟩ := S_v.form
  clear ho_ hf_
  have yt : w1.heap.size < w3.heap.size := by omega
  have xt0 : w3.cell? ⟨w1.heap.size, 0, none⟩ = some (.slice A1 t.atoms.length c1) := hBt_3 0 _ rfl
  go_upto_region 5 with fail
  have hS : ∀ w', Ext w3 w' → ∀ bb oo, bb < w3.heap.size → w'.cell? ⟨bb, oo, none⟩ = w3.cell? ⟨bb, oo, none⟩ := fun w' hx bb oo hb => hx.cell hb
  refine wp_region_plan (fun w' => Ext w3 w') 12 (.float 0 (.float 1 (.float 2 (.float 3 (.float 4 (.chain 5 (.chain 6 (.float 7 (.float 8 (.float 9 (.float 11 (.chain 10 (.tail 12))))))))))))) (by kernel_rfl) (by kernel_rfl) (Ext.refl _).drew ?_
  iterate 5 ((refine Plan.float_step (v := ?_) rfl (by rfl) (fun _ _ _ h => h) (fun w' hSw => ?_) ?_; rotate_left; · (go_simp; try with_reducible rfl)); (try simp only [Act.put, List.setIfInBounds_toArray, List.set_cons_zero, List.set_cons_succ]))
  refine Plan.chain_step rfl (fun K hK => ?_)
  go_simp
  refine (specTabVals_any t r l i _ _ _ _ _ (S_t.ext (Ext.trans (Ext.trans hx2 hx3) Ext.auto)) (S_r.ext (Ext.trans (Ext.trans hx2 hx3) Ext.auto)) (S_l.ext (Ext.trans (Ext.trans hx2 hx3) Ext.auto)) (S_i.ext (Ext.trans (Ext.trans hx2 hx3) Ext.auto))).mono ?_
  rintro e w4 ⟨⟨r_, F_, rfl, ho_, hf_⟩, hy⟩
  have hy_ : Ext w3 w4 := Ext.trans Ext.auto hy
  clear hy
  refine hK.out _ _ (hy_) ?_
  clear hK
  (try simp only [Act.put, List.setIfInBounds_toArray, List.set_cons_zero, List.set_cons_succ])
  have hs4 := hy_.size
  have hx4 := hy_
  have he4 : Ext w w4 := he3.trans hy_
  clear hy_
  rw [← HV.out] at ho_
  have S_u := ho_.old hf_
  obtain ⟨A6, c6, rfl, -, -⟩ := S_u.form
  clear ho_ hf_
  refine Plan.chain_step rfl (fun K hK => ?_)
  go_simp
  refine (laInts_any V V _ _ _ (S_v.ext (Ext.trans hx4 Ext.auto)) (S_u.ext (Ext.trans (Ext.refl _) Ext.auto))).mono ?_
  rintro e w5 ⟨rfl, hy⟩
  rw [show decide (V = V) = true from by simp]
  have hy_ : Ext w4 w5 := Ext.trans Ext.auto hy
  clear hy
  refine hK.out _ _ (hx4.trans hy_) ?_
  clear hK
  (try simp only [Act.put, List.setIfInBounds_toArray, List.set_cons_zero, List.set_cons_succ])
  have hs5 := hy_.size
  have hx5 := hy_
  have he5 : Ext w w5 := he4.trans hy_
  clear hy_
  iterate 2 ((refine Plan.float_step (v := ?_) rfl (by rfl) (fun _ _ _ h => h) (fun w' hSw => ?_) ?_; rotate_left; · (go_simp; try with_reducible rfl)); (try simp only [Act.put, List.setIfInBounds_toArray, List.set_cons_zero, List.set_cons_succ]))
  iterate 2 ((first | (refine planNo rfl (by rfl) (fun _ _ _ h => h) ?_) | (refine Plan.float_step (v := ?_) rfl (by rfl) (fun _ _ _ h => h) (fun w' hSw => ?_) ?_; rotate_left; · (go_simp; try with_reducible rfl))); (try simp only [Act.put, List.setIfInBounds_toArray, List.set_cons_zero, List.set_cons_succ]))
  refine Plan.chain_step rfl (fun K hK => ?_)
  go_simp
  refine (implTabOk_any t _ _ (S_t.ext (Ext.trans (Ext.trans (Ext.trans (Ext.trans hx2 hx3) hx4) hx5) Ext.auto)) (by omega)).mono ?_
  rintro e w6 ⟨rfl, hy⟩
  rw [← HOK.out]
  have hy_ : Ext w5 w6 := Ext.trans Ext.auto hy
  clear hy
  refine hK.out _ _ ((Ext.trans hx4 hx5).trans hy_) ?_
  clear hK
  (try simp only [Act.put, List.setIfInBounds_toArray, List.set_cons_zero, List.set_cons_succ])
  have hs6 := hy_.size
  have hx6 := hy_
  have he6 : Ext w w6 := he5.trans hy_
  clear hy_
  refine Plan.tail_step ?_
  simp only [List.drop_succ_cons, List.drop_zero]
  clear hS
  clear xt0 yt
  have hBt_6 := ((Ext.trans (Ext.trans hx4 hx5) hx6)).bx hBt_3 (by omega)
  have hFt_6 : ∀ oo, w6.frozen? ⟨w1.heap.size, oo, none⟩ = false := fun oo => (((Ext.trans (Ext.trans hx4 hx5) hx6)).frozen (by omega)).trans (hFt_3 oo)
  clear hBt_3 hFt_3
  have yt : w1.heap.size < w6.heap.size := by omega
  have xt0 : w6.cell? ⟨w1.heap.size, 0, none⟩ = some (.slice A1 t.atoms.length c1) := hBt_6 0 _ rfl
  go_wp2_with fail
  clear xt0 yt
  refine (specTabOk_any t _ _ (S_t.ext (Ext.trans (Ext.trans (Ext.trans (Ext.trans (Ext.trans hx2 hx3) hx4) hx5) hx6) Ext.auto))).mono ?_
  rintro e w7 ⟨rfl, hy⟩
  rw [← HOK.out]
  have hy_ : Ext w6 w7 := Ext.trans Ext.auto hy
  clear hy
  have hs7 := hy_.size
  have hx7 := hy_
  have he7 : Ext w w7 := he6.trans hy_
  clear hy_
  have hBt_7 := hx7.bx hBt_6 (by omega)
  have hFt_7 : ∀ oo, w7.frozen? ⟨w1.heap.size, oo, none⟩ = false := fun oo => (hx7.frozen (by omega)).trans (hFt_6 oo)
  clear hBt_6 hFt_6
  go_upto_region 7 with fail
  clear qo
  by_cases hz : V.length = 0
  · 
    have qz : ((V.length : Int) == 0) = true := by rw [hz]; rfl
    clear hz
    go_wp2_with fail
    refine (laOk_any _).mono ?_
    rintro e w8 ⟨rfl, hy⟩
    have hy_ : Ext w7 w8 := Ext.trans Ext.auto hy
    clear hy
    have hx8 : Ext w7 w8 := Ext.trans (Ext.auto) hy_
    have hs8 := hx8.size
    have he8 : Ext w w8 := he7.trans hx8
    have hBt_8 : Bx w8 (w1.heap.size) [.slice A1 t.atoms.length c1] := hx8.bx hBt_7 (by omega)
    have hFt_8 : ∀ oo, w8.frozen? ⟨w1.heap.size, oo, none⟩ = false := fun oo => (hx8.frozen (by omega)).trans (hFt_7 oo)
    clear hBt_7 hFt_7
    clear hy_
    go_wp2
    go_ret
    exact ⟨rfl, Ext.hold he8⟩
  · 
    have qz : ((V.length : Int) == 0) = false := beq_eq_false_iff_ne.2 (by omega)
    obtain ⟨hok, hr, hl, hi, hv⟩ := HL.out hz
    have hvl : V.length = t.atoms.length := by rw [hv, vals_len]
    have HK := hide (And.intro (show tabOkB t = true by rw [← HOK.out]; exact hok) (And.intro hr (And.intro hl hi)))
    have HVO := hide hv
    have hlv1 : t.atoms.length ≤ V.length := by omega
    have hlv2 : V.length ≤ t.atoms.length := by omega
    have HQ := hide hvl
    clear hz hok hr hl hi hv hvl HL
    have yt : w1.heap.size < w7.heap.size := by omega
    have xt0 : w7.cell? ⟨w1.heap.size, 0, none⟩ = some (.slice A1 t.atoms.length c1) := hBt_7 0 _ rfl
    go_wp2
    clear xt0 yt
    clear qz
    go_loopw [8] (fun i wr => ∃ k : Nat, k ≤ t.atoms.length ∧ i = .int .i64 k ∧ Ext w7 wr) (fun i _ => t.atoms.length - (intOf i).toNat)
    case atStart => exact ⟨0, by omega, rfl, Ext.auto⟩
    case round =>
      obtain ⟨w8, hwr⟩ : ∃ w8 : World, w8 = wr := ⟨_, rfl⟩
      subst hwr
      obtain ⟨k, hk, rfl, hy⟩ := hrel
      have hx8 : Ext w7 w8 := Ext.trans (Ext.auto) hy
      have hs8 := hx8.size
      have he8 : Ext w w8 := he7.trans hx8
      have hBt_8 : Bx w8 (w1.heap.size) [.slice A1 t.atoms.length c1] := hx8.bx hBt_7 (by omega)
      have hFt_8 : ∀ oo, w8.frozen? ⟨w1.heap.size, oo, none⟩ = false := fun oo => (hx8.frozen (by omega)).trans (hFt_7 oo)
      clear hBt_7 hFt_7
      clear hy
      by_cases hlt : k < t.atoms.length
      · 
        have hkv : k < V.length := by omega
        obtain ⟨b, off, v1, v2, rfl, hbo, hk0, hv1, hv2, e0, e1, e2, e3⟩ := at_TabAtom (S_t.ext (Ext.trans (Ext.trans (Ext.trans (Ext.trans (Ext.trans (Ext.trans (Ext.trans hx2 hx3) hx4) hx5) hx6) hx7) hx8) Ext.auto)) hlt
        have hbo1 : b < w8.heap.size := hbo
        obtain ⟨B1, d1, rfl, -, -⟩ := hv1.form
        obtain ⟨B2, d2, rfl, -, -⟩ := hv2.form
        obtain ⟨bv, ov, rfl, hbv, hkx, f0⟩ := at_Int (S_v.ext (Ext.trans (Ext.trans (Ext.trans (Ext.trans (Ext.trans hx4 hx5) hx6) hx7) hx8) Ext.auto)) hkv
        have hbv1 : bv < w8.heap.size := hbv
        have z0 : (0 : Int) ≤ (k : Int) := by omega
        have z1 : (k : Int) < (t.atoms.length : Int) := by omega
        have z2 : (k : Int) < (V.length : Int) := by omega
        have hat := tabOk_at (l := t.atoms) HK.out.1 hlt
        have HR := hide (fun (h : t.atoms[k].kind = 1) (j : Nat) (hj : t.atoms[k].k = (j : Int)) (hj2 : j < r.length) => (show V[k] = r[j] by have e := HVO.out; subst e; exact vals_reg hlt hkv h hj hj2))
        have HD := hide (fun (h : t.atoms[k].kind = 4) => (show V[k] = wrdDo t.atoms[k].k (polEval t.atoms[k].x V) (polEval t.atoms[k].y V) by have e := HVO.out; subst e; exact vals_do HK.out.1 HK.out.2.1 HK.out.2.2.1 HK.out.2.2.2 hlt hkv h))
        obtain ⟨a, ha_⟩ : ∃ a, a = t.atoms[k] := ⟨_, rfl⟩
        obtain ⟨y, hy_⟩ : ∃ y, y = V[k] := ⟨_, rfl⟩
        rw [← ha_] at hk0 hv1 hv2 e0 e1 e2 e3 hat HR HD
        rw [← hy_] at f0 HR HD
        clear ha_ hy_
        have yt : w1.heap.size < w8.heap.size := by omega
        have xt0 : w8.cell? ⟨w1.heap.size, 0, none⟩ = some (.slice (some ⟨b, off, none⟩) t.atoms.length c1) := hBt_8 0 _ rfl
        go_upto_region 13 with fail
        clear xt0 yt
        have he9 : Ext w (w8.alloc (.cells #[.int .i64 a.kind, .int .i64 a.k, .slice B1 a.x.monos.length d1, .slice B2 a.y.monos.length d2] 30)) := Ext.hold he8
        have hx9 : Ext w8 (w8.alloc (.cells #[.int .i64 a.kind, .int .i64 a.k, .slice B1 a.x.monos.length d1, .slice B2 a.y.monos.length d2] 30)) := Ext.auto
        have hs9 : w8.heap.size + 1 ≤ ((w8.alloc (.cells #[.int .i64 a.kind, .int .i64 a.k, .slice B1 a.x.monos.length d1, .slice B2 a.y.monos.length d2] 30))).heap.size := by simp
        have hBt_9 : Bx (w8.alloc (.cells #[.int .i64 a.kind, .int .i64 a.k, .slice B1 a.x.monos.length d1, .slice B2 a.y.monos.length d2] 30)) (w1.heap.size) [.slice (some ⟨b, off, none⟩) t.atoms.length c1] := Bx.hold hBt_8
        have hFt_9 : ∀ oo, (w8.alloc (.cells #[.int .i64 a.kind, .int .i64 a.k, .slice B1 a.x.monos.length d1, .slice B2 a.y.monos.length d2] 30)).frozen? ⟨w1.heap.size, oo, none⟩ = false := fz_hold hFt_8
        have hBc_9 : Bx (w8.alloc (.cells #[.int .i64 a.kind, .int .i64 a.k, .slice B1 a.x.monos.length d1, .slice B2 a.y.monos.length d2] 30)) (w8.heap.size) [.int .i64 a.kind, .int .i64 a.k, .slice B1 a.x.monos.length d1, .slice B2 a.y.monos.length d2] := Bx.new w8 #[.int .i64 a.kind, .int .i64 a.k, .slice B1 a.x.monos.length d1, .slice B2 a.y.monos.length d2] 30
        have hFc_9 : ∀ oo, (w8.alloc (.cells #[.int .i64 a.kind, .int .i64 a.k, .slice B1 a.x.monos.length d1, .slice B2 a.y.monos.length d2] 30)).frozen? ⟨w8.heap.size, oo, none⟩ = false := fz_new w8 #[.int .i64 a.kind, .int .i64 a.k, .slice B1 a.x.monos.length d1, .slice B2 a.y.monos.length d2] 30 rfl
        generalize (w8.alloc (.cells #[.int .i64 a.kind, .int .i64 a.k, .slice B1 a.x.monos.length d1, .slice B2 a.y.monos.length d2] 30)) = w9 at *
        clear hBt_8 hFt_8
        clear e0 e1 e2 e3
        replace f0 := (hx9.cell hbv1).trans f0
        have hbv2 : bv < w9.heap.size := by omega
        go_cut [77] (fun v wx => v = .bool false ∧ Ext w9 wx)
        · 
          by_cases h1 : a.kind = 1
          · 
            have q1 : (a.kind == 1) = true := by simp [h1]
            have HRR := hide (HR.out h1)
            unfold atomOkB at hat
            rw [if_pos h1] at hat
            have hkk : 0 ≤ a.k := by simp [inB] at hat; omega
            clear hat h1 HR HD
            obtain ⟨J, hJ⟩ : ∃ J : Nat, a.k = (J : Int) := Int.eq_ofNat_of_zero_le hkk
            have HJ := hide hJ
            clear hkk
            by_cases hjl : J < r.length
            · 
              obtain ⟨br, or_, rfl, hbr, hkr, g0⟩ := at_Int (S_r.ext (Ext.trans (Ext.trans (Ext.trans (Ext.trans (Ext.trans (Ext.trans (Ext.trans (Ext.trans hx2 hx3) hx4) hx5) hx6) hx7) hx8) hx9) Ext.auto)) hjl
              have hbr1 : br < w9.heap.size := hbr
              have y0 : (0 : Int) ≤ (J : Int) := by omega
              have y1 : (J : Int) < (r.length : Int) := by omega
              have qj : decide ((J : Int) < (r.length : Int)) = true := decide_eq_true y1
              have HE := HRR.out J HJ.out hjl
              rw [← HE] at g0
              clear HE
              have qy : (y != y) = false := by simp
              have hBc_9 : Bx w9 (w8.heap.size) [.int .i64 a.kind, .int .i64 (J : Int), .slice B1 a.x.monos.length d1, .slice B2 a.y.monos.length d2] := by rw [← HJ.out]; exact hBc_9
              clear hJ
              have yc : w8.heap.size < w9.heap.size := by omega
              have xc0 := hBc_9 0 _ rfl
              have xc1 := hBc_9 1 _ rfl
              have xc2 := hBc_9 2 _ rfl
              have xc3 := hBc_9 3 _ rfl
              have hS : ∀ w', Ext w9 w' → ∀ bb oo, bb < w9.heap.size → w'.cell? ⟨bb, oo, none⟩ = w9.cell? ⟨bb, oo, none⟩ := fun w' hx bb oo hb => hx.cell hb
              refine wp_region_plan (fun w' => Ext w9 w') 20 (.float 0 (.float 1 (.float 2 (.float 3 (.float 4 (.float 5 (.float 6 (.float 7 (.float 8 (.float 9 (.float 10 (.float 11 (.float 12 (.float 13 (.float 14 (.float 15 (.float 16 (.float 17 (.float 18 (.float 19 (.tail 20))))))))))))))))))))) (by kernel_rfl) (by kernel_rfl) (Ext.refl _).drew ?_
              iterate 4 ((refine Plan.float_step (v := ?_) rfl (by rfl) (fun _ _ _ h => h) (fun w' hSw => ?_) ?_; rotate_left; · (go_simp; try with_reducible rfl)); (try simp only [Act.put, List.setIfInBounds_toArray, List.set_cons_zero, List.set_cons_succ]))
              iterate 5 ((first | (refine planNo rfl (by rfl) (fun _ _ _ h => h) ?_) | (refine Plan.float_step (v := ?_) rfl (by rfl) (fun _ _ _ h => h) (fun w' hSw => ?_) ?_; rotate_left; · (go_simp; try with_reducible rfl))); (try simp only [Act.put, List.setIfInBounds_toArray, List.set_cons_zero, List.set_cons_succ]))
              iterate 2 ((refine Plan.float_step (v := ?_) rfl (by rfl) (fun _ _ _ h => h) (fun w' hSw => ?_) ?_; rotate_left; · (go_simp; try with_reducible rfl)); (try simp only [Act.put, List.setIfInBounds_toArray, List.set_cons_zero, List.set_cons_succ]))
              iterate 9 ((first | (refine planNo rfl (by rfl) (fun _ _ _ h => h) ?_) | (refine Plan.float_step (v := ?_) rfl (by rfl) (fun _ _ _ h => h) (fun w' hSw => ?_) ?_; rotate_left; · (go_simp; try with_reducible rfl))); (try simp only [Act.put, List.setIfInBounds_toArray, List.set_cons_zero, List.set_cons_succ]))
              refine Plan.tail_step ?_
              simp only [List.drop_succ_cons, List.drop_zero]
              clear hS
              go_wp2_with fail
              go_meet
              exact ⟨rfl, Ext.auto⟩
            · 
              have qj : decide ((J : Int) < (r.length : Int)) = false := decide_eq_false (by omega)
              have hBc_9 : Bx w9 (w8.heap.size) [.int .i64 a.kind, .int .i64 (J : Int), .slice B1 a.x.monos.length d1, .slice B2 a.y.monos.length d2] := by rw [← HJ.out]; exact hBc_9
              clear hJ
              have yc : w8.heap.size < w9.heap.size := by omega
              have xc0 := hBc_9 0 _ rfl
              have xc1 := hBc_9 1 _ rfl
              have xc2 := hBc_9 2 _ rfl
              have xc3 := hBc_9 3 _ rfl
              have hS : ∀ w', Ext w9 w' → ∀ bb oo, bb < w9.heap.size → w'.cell? ⟨bb, oo, none⟩ = w9.cell? ⟨bb, oo, none⟩ := fun w' hx bb oo hb => hx.cell hb
              refine wp_region_plan (fun w' => Ext w9 w') 20 (.float 0 (.float 1 (.float 2 (.float 3 (.float 4 (.float 5 (.float 6 (.float 7 (.float 8 (.float 9 (.float 10 (.float 11 (.float 12 (.float 13 (.float 14 (.float 15 (.float 16 (.float 17 (.float 18 (.float 19 (.tail 20))))))))))))))))))))) (by kernel_rfl) (by kernel_rfl) (Ext.refl _).drew ?_
              iterate 4 ((refine Plan.float_step (v := ?_) rfl (by rfl) (fun _ _ _ h => h) (fun w' hSw => ?_) ?_; rotate_left; · (go_simp; try with_reducible rfl)); (try simp only [Act.put, List.setIfInBounds_toArray, List.set_cons_zero, List.set_cons_succ]))
              iterate 5 ((first | (refine planNo rfl (by rfl) (fun _ _ _ h => h) ?_) | (refine Plan.float_step (v := ?_) rfl (by rfl) (fun _ _ _ h => h) (fun w' hSw => ?_) ?_; rotate_left; · (go_simp; try with_reducible rfl))); (try simp only [Act.put, List.setIfInBounds_toArray, List.set_cons_zero, List.set_cons_succ]))
              iterate 2 ((refine Plan.float_step (v := ?_) rfl (by rfl) (fun _ _ _ h => h) (fun w' hSw => ?_) ?_; rotate_left; · (go_simp; try with_reducible rfl)); (try simp only [Act.put, List.setIfInBounds_toArray, List.set_cons_zero, List.set_cons_succ]))
              iterate 9 ((first | (refine planNo rfl (by rfl) (fun _ _ _ h => h) ?_) | (refine Plan.float_step (v := ?_) rfl (by rfl) (fun _ _ _ h => h) (fun w' hSw => ?_) ?_; rotate_left; · (go_simp; try with_reducible rfl))); (try simp only [Act.put, List.setIfInBounds_toArray, List.set_cons_zero, List.set_cons_succ]))
              refine Plan.tail_step ?_
              simp only [List.drop_succ_cons, List.drop_zero]
              clear hS
              go_wp2_with fail
              go_meet
              exact ⟨rfl, Ext.auto⟩
          · 
            have q1 : (a.kind == 1) = false := by simp [h1]
            clear hat h1 HR HD
            have yc : w8.heap.size < w9.heap.size := by omega
            have xc0 := hBc_9 0 _ rfl
            have xc1 := hBc_9 1 _ rfl
            have xc2 := hBc_9 2 _ rfl
            have xc3 := hBc_9 3 _ rfl
            have hS : ∀ w', Ext w9 w' → ∀ bb oo, bb < w9.heap.size → w'.cell? ⟨bb, oo, none⟩ = w9.cell? ⟨bb, oo, none⟩ := fun w' hx bb oo hb => hx.cell hb
            refine wp_region_plan (fun w' => Ext w9 w') 20 (.float 0 (.float 1 (.float 2 (.float 3 (.float 4 (.float 5 (.float 6 (.float 7 (.float 8 (.float 9 (.float 10 (.float 11 (.float 12 (.float 13 (.float 14 (.float 15 (.float 16 (.float 17 (.float 18 (.float 19 (.tail 20))))))))))))))))))))) (by kernel_rfl) (by kernel_rfl) (Ext.refl _).drew ?_
            iterate 4 ((refine Plan.float_step (v := ?_) rfl (by rfl) (fun _ _ _ h => h) (fun w' hSw => ?_) ?_; rotate_left; · (go_simp; try with_reducible rfl)); (try simp only [Act.put, List.setIfInBounds_toArray, List.set_cons_zero, List.set_cons_succ]))
            iterate 5 ((first | (refine planNo rfl (by rfl) (fun _ _ _ h => h) ?_) | (refine Plan.float_step (v := ?_) rfl (by rfl) (fun _ _ _ h => h) (fun w' hSw => ?_) ?_; rotate_left; · (go_simp; try with_reducible rfl))); (try simp only [Act.put, List.setIfInBounds_toArray, List.set_cons_zero, List.set_cons_succ]))
            iterate 2 ((refine Plan.float_step (v := ?_) rfl (by rfl) (fun _ _ _ h => h) (fun w' hSw => ?_) ?_; rotate_left; · (go_simp; try with_reducible rfl)); (try simp only [Act.put, List.setIfInBounds_toArray, List.set_cons_zero, List.set_cons_succ]))
            iterate 9 ((first | (refine planNo rfl (by rfl) (fun _ _ _ h => h) ?_) | (refine Plan.float_step (v := ?_) rfl (by rfl) (fun _ _ _ h => h) (fun w' hSw => ?_) ?_; rotate_left; · (go_simp; try with_reducible rfl))); (try simp only [Act.put, List.setIfInBounds_toArray, List.set_cons_zero, List.set_cons_succ]))
            refine Plan.tail_step ?_
            simp only [List.drop_succ_cons, List.drop_zero]
            clear hS
            go_wp2_with fail
            go_meet
            exact ⟨rfl, Ext.auto⟩
        obtain ⟨w10, hwc⟩ : ∃ w10 : World, w10 = wc := ⟨_, rfl⟩
        subst hwc
        obtain ⟨rfl, hy⟩ := hcut
        have hx10 : Ext w9 w10 := Ext.trans (Ext.auto) hy
        have hs10 := hx10.size
        have he10 : Ext w w10 := he9.trans hx10
        have hBt_10 : Bx w10 (w1.heap.size) [.slice (some ⟨b, off, none⟩) t.atoms.length c1] := hx10.bx hBt_9 (by omega)
        have hFt_10 : ∀ oo, w10.frozen? ⟨w1.heap.size, oo, none⟩ = false := fun oo => (hx10.frozen (by omega)).trans (hFt_9 oo)
        have hBc_10 : Bx w10 (w8.heap.size) [.int .i64 a.kind, .int .i64 a.k, .slice B1 a.x.monos.length d1, .slice B2 a.y.monos.length d2] := hx10.bx hBc_9 (by omega)
        have hFc_10 : ∀ oo, w10.frozen? ⟨w8.heap.size, oo, none⟩ = false := fun oo => (hx10.frozen (by omega)).trans (hFc_9 oo)
        clear hBt_9 hFt_9 hBc_9 hFc_9
        clear hy
        replace f0 := (hx10.cell hbv2).trans f0
        replace hbv2 : bv < w10.heap.size := by omega
        have yc : w8.heap.size < w10.heap.size := by omega
        have xc0 := hBc_10 0 _ rfl
        have xc1 := hBc_10 1 _ rfl
        have xc2 := hBc_10 2 _ rfl
        have xc3 := hBc_10 3 _ rfl
        go_upto_region 15 with fail
        clear xc0 xc1 xc2 xc3 yc
        go_cut [98] (fun v wx => v = .bool false ∧ Ext w10 wx)
        · 
          by_cases h4 : a.kind = 4
          · 
            have q4 : (a.kind == 4) = true := by simp [h4]
            have HDD := hide (HD.out h4)
            unfold atomOkB at hat
            rw [if_neg (show ¬ a.kind = 1 by omega), if_neg (show ¬ (a.kind = 2 ∨ a.kind = 3) by omega), if_pos h4] at hat
            simp only [Bool.and_eq_true] at hat
            have hop : 1 ≤ a.k ∧ a.k ≤ 5 := by simpa [inB] using hat.1.1.1.1
            have wx : wordB (polEval a.x V) = true := polEval_word _ _
            have wy : wordB (polEval a.y V) = true := polEval_word _ _
            clear hat h4 HR HD
            generalize hpx : polEval a.x V = px at *
            generalize hpy : polEval a.y V = py at *
            have HPX := hide hpx
            have HPY := hide hpy
            clear hpx hpy
            have qy : (y != y) = false := by simp
            have yc : w8.heap.size < w10.heap.size := by omega
            have xc0 := hBc_10 0 _ rfl
            have xc1 := hBc_10 1 _ rfl
            have xc2 := hBc_10 2 _ rfl
            have xc3 := hBc_10 3 _ rfl
            have hS : ∀ w', Ext w10 w' → ∀ bb oo, bb < w10.heap.size → w'.cell? ⟨bb, oo, none⟩ = w10.cell? ⟨bb, oo, none⟩ := fun w' hx bb oo hb => hx.cell hb
            refine wp_region_plan (fun w' => Ext w10 w') 19 (.float 0 (.float 1 (.float 2 (.float 3 (.float 4 (.float 5 (.float 6 (.float 7 (.float 8 (.float 9 (.float 10 (.float 11 (.float 12 (.float 14 (.float 15 (.float 16 (.chain 13 (.chain 17 (.chain 18 (.tail 19)))))))))))))))))))) (by kernel_rfl) (by kernel_rfl) (Ext.refl _).drew ?_
            iterate 4 ((refine Plan.float_step (v := ?_) rfl (by rfl) (fun _ _ _ h => h) (fun w' hSw => ?_) ?_; rotate_left; · (go_simp; try with_reducible rfl)); (try simp only [Act.put, List.setIfInBounds_toArray, List.set_cons_zero, List.set_cons_succ]))
            iterate 12 ((first | (refine planNo rfl (by rfl) (fun _ _ _ h => h) ?_) | (refine Plan.float_step (v := ?_) rfl (by rfl) (fun _ _ _ h => h) (fun w' hSw => ?_) ?_; rotate_left; · (go_simp; try with_reducible rfl))); (try simp only [Act.put, List.setIfInBounds_toArray, List.set_cons_zero, List.set_cons_succ]))
            refine Plan.chain_step rfl (fun K hK => ?_)
            go_simp
            refine (implPolEval_any a.x V _ _ _ (hv1.ext (((Ext.trans hx9 hx10)).trans Ext.auto)) (S_v.ext (Ext.trans (Ext.trans (Ext.trans (Ext.trans (Ext.trans (Ext.trans (Ext.trans hx4 hx5) hx6) hx7) hx8) hx9) hx10) Ext.auto))).mono ?_
            rintro e w11 ⟨rfl, hy⟩
            rw [HPX.out]
            have hy_ : Ext w10 w11 := Ext.trans Ext.auto hy
            clear hy
            refine hK.out _ _ (hy_) ?_
            clear hK
            (try simp only [Act.put, List.setIfInBounds_toArray, List.set_cons_zero, List.set_cons_succ])
            have hs11 := hy_.size
            have hx11 := hy_
            have he11 : Ext w w11 := he10.trans hy_
            clear hy_
            refine Plan.chain_step rfl (fun K hK => ?_)
            go_simp
            refine (implPolEval_any a.y V _ _ _ (hv2.ext (((Ext.trans (Ext.trans hx9 hx10) hx11)).trans Ext.auto)) (S_v.ext (Ext.trans (Ext.trans (Ext.trans (Ext.trans (Ext.trans (Ext.trans (Ext.trans (Ext.trans hx4 hx5) hx6) hx7) hx8) hx9) hx10) hx11) Ext.auto))).mono ?_
            rintro e w12 ⟨rfl, hy⟩
            rw [HPY.out]
            have hy_ : Ext w11 w12 := Ext.trans Ext.auto hy
            clear hy
            refine hK.out _ _ (hx11.trans hy_) ?_
            clear hK
            (try simp only [Act.put, List.setIfInBounds_toArray, List.set_cons_zero, List.set_cons_succ])
            have hs12 := hy_.size
            have hx12 := hy_
            have he12 : Ext w w12 := he11.trans hy_
            clear hy_
            refine Plan.chain_step rfl (fun K hK => ?_)
            go_simp
            refine (specWrdDo_any a.k px py _ hop wx wy).mono ?_
            rintro e w' ⟨rfl, rfl⟩
            rw [← HDD.out]
            refine hK.out _ _ ((Ext.trans hx11 hx12)) ?_
            clear hK
            (try simp only [Act.put, List.setIfInBounds_toArray, List.set_cons_zero, List.set_cons_succ])
            refine Plan.tail_step ?_
            simp only [List.drop_succ_cons, List.drop_zero]
            clear hS
            go_wp2_with fail
            go_meet
            exact ⟨rfl, Ext.hold (Ext.trans hx11 hx12)⟩
          · 
            have q4 : (a.kind == 4) = false := by simp [h4]
            clear hat h4 HR HD
            have yc : w8.heap.size < w10.heap.size := by omega
            have xc0 := hBc_10 0 _ rfl
            have xc1 := hBc_10 1 _ rfl
            have xc2 := hBc_10 2 _ rfl
            have xc3 := hBc_10 3 _ rfl
            have hS : ∀ w', Ext w10 w' → ∀ bb oo, bb < w10.heap.size → w'.cell? ⟨bb, oo, none⟩ = w10.cell? ⟨bb, oo, none⟩ := fun w' hx bb oo hb => hx.cell hb
            refine wp_region_plan (fun w' => Ext w10 w') 19 (.float 0 (.float 1 (.float 2 (.float 3 (.float 4 (.float 5 (.float 6 (.float 7 (.float 8 (.float 9 (.float 10 (.float 11 (.float 12 (.float 14 (.float 15 (.float 16 (.chain 13 (.chain 17 (.chain 18 (.tail 19)))))))))))))))))))) (by kernel_rfl) (by kernel_rfl) (Ext.refl _).drew ?_
            iterate 4 ((refine Plan.float_step (v := ?_) rfl (by rfl) (fun _ _ _ h => h) (fun w' hSw => ?_) ?_; rotate_left; · (go_simp; try with_reducible rfl)); (try simp only [Act.put, List.setIfInBounds_toArray, List.set_cons_zero, List.set_cons_succ]))
            iterate 12 ((first | (refine planNo rfl (by rfl) (fun _ _ _ h => h) ?_) | (refine Plan.float_step (v := ?_) rfl (by rfl) (fun _ _ _ h => h) (fun w' hSw => ?_) ?_; rotate_left; · (go_simp; try with_reducible rfl))); (try simp only [Act.put, List.setIfInBounds_toArray, List.set_cons_zero, List.set_cons_succ]))
            refine Plan.chain_step rfl (fun K hK => ?_)
            go_simp
            refine hK.out _ _ (Ext.refl _).drew ?_
            clear hK
            (try simp only [Act.put, List.setIfInBounds_toArray, List.set_cons_zero, List.set_cons_succ])
            refine Plan.chain_step rfl (fun K hK => ?_)
            go_simp
            refine hK.out _ _ (Ext.refl _).drew ?_
            clear hK
            (try simp only [Act.put, List.setIfInBounds_toArray, List.set_cons_zero, List.set_cons_succ])
            refine Plan.chain_step rfl (fun K hK => ?_)
            go_simp
            refine hK.out _ _ (Ext.refl _).drew ?_
            clear hK
            (try simp only [Act.put, List.setIfInBounds_toArray, List.set_cons_zero, List.set_cons_succ])
            refine Plan.tail_step ?_
            simp only [List.drop_succ_cons, List.drop_zero]
            clear hS
            go_wp2_with fail
            go_meet
            exact ⟨rfl, Ext.auto⟩
        obtain ⟨w11, hwc⟩ : ∃ w11 : World, w11 = wc := ⟨_, rfl⟩
        subst hwc
        obtain ⟨rfl, hy⟩ := hcut
        have hx11 : Ext w10 w11 := Ext.trans (Ext.auto) hy
        have hs11 := hx11.size
        have he11 : Ext w w11 := he10.trans hx11
        have hBt_11 : Bx w11 (w1.heap.size) [.slice (some ⟨b, off, none⟩) t.atoms.length c1] := hx11.bx hBt_10 (by omega)
        have hFt_11 : ∀ oo, w11.frozen? ⟨w1.heap.size, oo, none⟩ = false := fun oo => (hx11.frozen (by omega)).trans (hFt_10 oo)
        have hBc_11 : Bx w11 (w8.heap.size) [.int .i64 a.kind, .int .i64 a.k, .slice B1 a.x.monos.length d1, .slice B2 a.y.monos.length d2] := hx11.bx hBc_10 (by omega)
        have hFc_11 : ∀ oo, w11.frozen? ⟨w8.heap.size, oo, none⟩ = false := fun oo => (hx11.frozen (by omega)).trans (hFc_10 oo)
        clear hBt_10 hFt_10 hBc_10 hFc_10
        clear hy
        replace f0 := (hx11.cell hbv2).trans f0
        replace hbv2 : bv < w11.heap.size := by omega
        go_wp2_with fail
        go_roundw
        case rel => exact ⟨k + 1, by omega, by go_num, Ext.hold (hx8.trans ((Ext.trans (Ext.trans hx9 hx10) hx11)))⟩
        case measure => simp [intOf]; omega
      · 
        have yt : w1.heap.size < w8.heap.size := by omega
        have xt0 : w8.cell? ⟨w1.heap.size, 0, none⟩ = some (.slice A1 t.atoms.length c1) := hBt_8 0 _ rfl
        obtain rfl : k = t.atoms.length := by omega
        have qe : ((V.length : Int) == (t.atoms.length : Int)) = true := by rw [HQ.out]; simp
        go_wp2
        go_ret
        exact ⟨rfl, Ext.hold he8⟩

end Go.Proofs.Ytmbclopkopfngaa
