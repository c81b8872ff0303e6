/-
  The law FnBlkTake holds of every input.
-/
import Derived.Test.YtokibcicoomceaaDoorDrawBT
import Derived.Test.YtokibcicoomceaaDoorBlkTakeI
import Derived.Test.YtokibcicoomceaaDoorBlkWI
import Derived.Test.YtokibcicoomceaaDoorBLawLib
import Derived.Deep.DeepCutAuto
namespace Go.Proofs.YtokibcicoomceaaDoor
open Go.RowKit

set_option linter.unusedVariables false
set_option linter.unusedSimpArgs false
set_option maxRecDepth 100000

set_option maxHeartbeats 64000000 in
theorem lawBlkTake_any (code more : List UInt8) (v v2 : Value) (w : World) (h : Sl w (Old w) v code) (h2 : Sl w (Old w) v2 more) (lf : Nat) (hF : Forms lf w) : Calls Tryd.prog 5 #[v, v2] w fun e w' => e = .returned (.bool true) ∧ Ext w w' := by
  obtain ⟨Ac, cc, rfl, -, -⟩ := h.form
  obtain ⟨Ac2, cc2, rfl, -, -⟩ := h2.form
  by_cases hbig : 1048576 < code.length
  · have q1 : decide (1048576 < (code.length : Int)) = true := decide_eq_true (by omega)
    go_enter Tryd.func5, Tryd.ntmps5
    go_wp2
    go_ret
    exact ⟨rfl, Ext.refl _⟩
  have q1 : decide (1048576 < (code.length : Int)) = false := decide_eq_false (by omega)
  by_cases hbig2 : 1048576 < more.length
  · have q2 : decide (1048576 < (more.length : Int)) = true := decide_eq_true (by omega)
    go_enter Tryd.func5, Tryd.ntmps5
    go_wp2
    go_ret
    exact ⟨rfl, Ext.refl _⟩
  have q2 : decide (1048576 < (more.length : Int)) = false := decide_eq_false (by omega)
  go_enter Tryd.func5, Tryd.ntmps5
  go_wp2_with fail
  refine (drawBlkWords_any code _ _ h).mono ?_
  rintro e w1 ⟨⟨A1, c1, L, rfl, hL1, hl9⟩, he1⟩
  clear q1 q2 hbig hbig2
  go_wp2_with fail
  refine (drawBlkTake_any more _ _ (h2.ext he1)).mono ?_
  rintro e w2 ⟨⟨A2, c2, ws, rfl, hW2, hw8⟩, hy⟩
  have he2 := he1.trans hy
  have hL2 := hL1.ext hy
  clear hy hL1
  go_wp2_with fail
  refine (implBlkWords_any L _ _ hL2 (by omega) lf (hF.ext he2)).mono ?_
  rintro e w3 ⟨⟨v3, rfl, hG3⟩, hy⟩
  have he3 := he2.trans hy
  have hL3 := hL2.ext hy
  have hW3 := hW2.ext hy
  clear hy hL2 hW2
  have hPl : (L.map insPut).length = L.length := List.length_map ..
  have HPT := hide (show (∀ i, i ∈ L → insOkB i = true) → blkTake (L.map insPut) = L from blkTake_put L)
  generalize hP : L.map insPut = P at *
  have HP := hide hP
  have hP9 : P.length ≤ 9 := by omega
  clear hP hPl
  obtain ⟨A3, c3, rfl, -, -⟩ := hG3.form
  have hP3 := hG3.sl
  clear hG3
  go_wp2_with fail
  refine (implBlkTake_any ws _ _ hW3 (by omega) lf (hF.ext he3)).mono ?_
  rintro e w4 ⟨⟨v4, rfl, hG4⟩, hy⟩
  have he4 := he3.trans hy
  have hL4 := hL3.ext hy
  have hW4 := hW3.ext hy
  have hP4 := hP3.ext hy
  clear hy hL3 hW3 hP3
  have hTl := blkTake_len ws
  have hTW := blkTake_words ws
  generalize hT : blkTake ws = T at *
  have HT := hide hT
  generalize hQT : T.map insPut = Q at *
  have HQT := hide hQT
  clear hQT
  have HTW := hide hTW
  clear hT hTW
  obtain ⟨A4, c4, rfl, -, -⟩ := hG4.form
  have hT4 := hG4.sl
  clear hG4
  have p3 : decide ((ws.length : Int) < (T.length : Int)) = false := decide_eq_false (by omega)
  have HC := hide (show T.length ≤ c2 ∧ c2 ≤ maxLen from by obtain ⟨_, _, hfe, hcc, hcm⟩ := hW4.form; injection hfe with e1 e2 e3; omega)
  go_wp2_with fail
  refine (blkWords_any L _ _ hL4 (by omega)).mono ?_
  rintro e w5 ⟨⟨v5, rfl, hG5⟩, hy⟩
  rw [HP.out] at hG5
  obtain ⟨A5, c5, rfl, -, -⟩ := hG5.form
  have he5 := he4.trans hy
  have hL5 := hL4.ext hy
  have hW5 := hW4.ext hy
  have hP5 := hP4.ext hy
  have hT5 := hT4.ext hy
  clear hy hL4 hW4 hP4 hT4
  go_wp2_with fail
  refine (laInts_any P P _ _ _ hP5 hG5.sl).mono ?_
  rintro e w6 ⟨rfl, hy⟩
  rw [decide_eq_true (rfl : P = P)]
  have he6 := he5.trans hy
  have hL6 := hL5.ext hy
  have hW6 := hW5.ext hy
  have hP6 := hP5.ext hy
  have hT6 := hT5.ext hy
  clear hy hL5 hW5 hP5 hT5 hG5
  go_wp2_with fail
  refine (specBlkTake_any ws _ _ hW6 (by omega)).mono ?_
  rintro e w7 ⟨⟨v7, rfl, hG7⟩, hy⟩
  rw [HT.out] at hG7
  obtain ⟨A7, c7, rfl, -, -⟩ := hG7.form
  have he7 := he6.trans hy
  have hL7 := hL6.ext hy
  have hW7 := hW6.ext hy
  have hP7 := hP6.ext hy
  have hT7 := hT6.ext hy
  clear hy hL6 hW6 hP6 hT6
  go_wp2_with fail
  refine (laList_any T T _ _ _ hT7 hG7.sl).mono ?_
  rintro e w8 ⟨rfl, hy⟩
  rw [decide_eq_true (rfl : T = T)]
  have he8 := he7.trans hy
  have hL8 := hL7.ext hy
  have hW8 := hW7.ext hy
  have hP8 := hP7.ext hy
  have hT8 := hT7.ext hy
  clear hy hL7 hW7 hP7 hT7 hG7
  have z0 : (0 : Int) ≤ (T.length : Int) := by omega
  have z1 : (T.length : Int) ≤ (c2 : Int) := by have := HC.out; omega
  go_upto_region 9 with fail
  have hS : ∀ w', Ext w8 w' → ∀ bb oo, bb < w8.heap.size → w'.cell? ⟨bb, oo, none⟩ = w8.cell? ⟨bb, oo, none⟩ := fun w' hx bb oo hb => hx.cell hb
  refine wp_region_plan (fun w' => Ext w8 w') 6 (.float 0 (.float 2 (.float 3 (.float 4 (.float 5 (.chain 1 (.tail 6))))))) (by kernel_rfl) (by kernel_rfl) (Ext.refl _).drew ?_
  iterate 5 ((refine Plan.float_step (v := ?_) rfl (by rfl) (fun _ _ _ h => h) (fun w' hSw => ?_) ?_; rotate_left; · (go_simp; try with_reducible rfl)); (try simp only [Act.put, List.setIfInBounds_toArray, List.set_cons_zero, List.set_cons_succ]))
  refine Plan.chain_step rfl (fun K hK => ?_)
  go_simp
  refine (implBlkWords_any T _ _ (hT8.ext Ext.auto) (by omega) lf (hF.ext (he8.trans Ext.auto))).mono ?_
  rintro e w9 ⟨⟨v9, rfl, hG9⟩, hy⟩
  have hx9 : Ext w8 w9 := Ext.trans Ext.auto hy
  clear hy
  refine hK.out _ _ hx9 ?_
  clear hK
  (try simp only [Act.put, List.setIfInBounds_toArray, List.set_cons_zero, List.set_cons_succ])
  rw [HQT.out] at hG9
  obtain ⟨A9, c9, rfl, -, -⟩ := hG9.form
  have he9 := he8.trans hx9
  have hL9 := hL8.ext hx9
  have hW9 := hW8.ext hx9
  have hP9' := hP8.ext hx9
  clear hL8 hW8 hP8 hT8
  refine Plan.tail_step ?_
  simp only [List.drop_succ_cons, List.drop_zero]
  clear hS
  have hWt := hW9.take_ (k := T.length) (by omega)
  have hlt9 : (ws.take T.length).length = T.length := by rw [List.length_take]; omega
  go_wp2_with fail
  refine (laInts_any Q (ws.take T.length) _ _ _ hG9.sl hWt).mono ?_
  rintro e w10 ⟨rfl, hy⟩
  rw [decide_eq_true HTW.out]
  have he10 := he9.trans hy
  have hL10 := hL9.ext hy
  have hP10 := hP9'.ext hy
  clear hy hL9 hW9 hP9' hWt hG9 p3 z0 z1 hlt9 HTW HT hTl HQT
  go_wp2
  go_loopw [9] (fun vk wz => ∃ k : Nat, vk = .int .i64 (k : Int) ∧ k ≤ L.length ∧ Hid (∀ i, i ∈ L.take k → insOkB i = true) ∧ Ext w10 wz) (fun vk _ => L.length - (intOf vk).toNat)
  case atStart => exact ⟨0, rfl, by omega, fun i hi => by simp at hi, Ext.refl _⟩
  case round =>
    obtain ⟨w11, hwr⟩ : ∃ w11 : World, w11 = wr := ⟨_, rfl⟩
    subst hwr
    obtain ⟨k, rfl, hk, HA, hE⟩ := hrel
    have he11 := he10.trans hE
    by_cases hlt : k < L.length
    · obtain ⟨b, off, rfl, hbo, hk0, e0, e1, e2, e3⟩ := at_InsIns (hL10.ext hE) hlt
      have z0 : (0 : Int) ≤ (k : Int) := by omega
      have z1 : (k : Int) < (L.length : Int) := by omega
      have HN := hide (fun hi : insOkB L[k] = true => fun i (hm : i ∈ L.take (k + 1)) => show insOkB i = true by
        rw [List.take_succ_eq_append_getElem hlt] at hm
        rcases List.mem_append.1 hm with hm | hm
        · exact HA.out i hm
        · simp at hm
          rw [hm]
          exact hi)
      cases q0 : insOkB L[k]
      · have HQ := hide q0
        clear q0
        go_wp2_with fail
        refine (specInsOk_any L[k] _).mono ?_
        rintro e w12 ⟨rfl, hy⟩
        rw [HQ.out]
        go_wp2_with (go_at_call 12; refine (laOk_any _).mono ?_; rintro e w' ⟨rfl, rfl⟩)
        go_ret
        exact ⟨rfl, he11.trans hy⟩
      · have HQ := hide (HN.out q0)
        have HR := hide q0
        clear q0
        go_wp2_with fail
        refine (specInsOk_any L[k] _).mono ?_
        rintro e w12 ⟨rfl, hy⟩
        rw [HR.out]
        go_wp2
        go_round
        case rel => exact ⟨k + 1, by go_num, by omega, HQ, hE.trans hy⟩
        case measure => (simp [intOf]; try omega)
    · have HA2 := hide (HPT.out (fun i hi => HA.out i (by rw [List.take_of_length_le (by omega)]; exact hi)))
      go_wp2_with fail
      refine (implBlkTake_any P _ _ (hP10.ext hE) (by omega) lf (hF.ext he11)).mono ?_
      rintro e w12 ⟨⟨v12, rfl, hG12⟩, hy⟩
      rw [HA2.out] at hG12
      obtain ⟨A12, c12, rfl, -, -⟩ := hG12.form
      have he12 := he11.trans hy
      go_wp2_with fail
      refine (laList_any L L _ _ _ hG12.sl ((hL10.ext hE).ext hy)).mono ?_
      rintro e w13 ⟨rfl, hy2⟩
      rw [decide_eq_true (rfl : L = L)]
      go_wp2_with (go_at_call 12; refine (laOk_any _).mono ?_; rintro e w' ⟨rfl, rfl⟩)
      go_ret
      exact ⟨rfl, he12.trans hy2⟩

end Go.Proofs.YtokibcicoomceaaDoor
