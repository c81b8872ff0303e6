/-
  DrawT
-/
import Derived.Test.YtmbclopkopfngaaQDrawP
import Derived.Test.YtmbclopkopfngaaQNewS
import Derived.Deep.DeepCutAuto
namespace Go.Proofs.Ytmbclopkopfngaa
open Go.RowKit

set_option linter.unusedVariables false
set_option linter.unusedSimpArgs false
set_option maxRecDepth 100000

set_option maxHeartbeats 16000000 in
theorem l21Tab_any (rb base P : Nat) (w : World) (h : Rdr rb base P w) (hP : P ≤ 1099511400000)  :
    Calls Try.prog 51 #[.pointer (some ⟨rb, 0, none⟩)] w fun e w' => (∃ (t : TabTab) (A : Option Addr) (c : Nat), e = .returned (.agg #[.slice A t.atoms.length c]) ∧ Tb w.heap.size w'.heap.size w' (.slice A t.atoms.length c) t ∧ t.atoms.length ≤ 12) ∧ Rdr rb base (P + 1600) w' ∧ Turn [rb] w w' := by
  have hlt := h.lt
  have hlt1 := hlt.1
  have hlt2 := hlt.2
  clear hlt
  go_enter Try.func51, Try.ntmps51
  go_upto_region 1 with fail
  have he0 : Ext w (w.alloc (Obj.cells #[.slice none 0 0] 25)) := (Ext.auto)
  have hs0 : w.heap.size + 1 ≤ ((w.alloc (Obj.cells #[.slice none 0 0] 25))).heap.size := by simp
  have hq0 := hide (show ((w.alloc (Obj.cells #[.slice none 0 0] 25))).heap.size = w.heap.size + 1 by simp)
  have hBres_0 : Bx (w.alloc (Obj.cells #[.slice none 0 0] 25)) (w.heap.size) [.slice none 0 0] := (by have := (Bx.new w #[.slice none 0 0] 25); simpa using this)
  have hFres_0 : ∀ oo, ((w.alloc (Obj.cells #[.slice none 0 0] 25))).frozen? ⟨w.heap.size, oo, none⟩ = false := fun oo => by simp
  generalize (w.alloc (Obj.cells #[.slice none 0 0] 25)) = w0 at *
  have hR0 : Rdr rb base P w0 := h.ext he0
  have hT0 : Turn [rb] w w0 := Turn.of_ext he0 _
  go_wp2_with fail
  refine (specSymNew_any _).mono ?_
  rintro e w1 ⟨r1, r2, F1, F2, rfl, hO, hO2, hF, hy, hRm⟩
  have hs1 := hy.size
  try simp at hs1
  have hR1 := (Rdr.hold hR0).ext hy
  have hT1 : Turn [rb] w w1 := (Turn.hold hT0).call hy
  have hBres_1 : Bx w1 (w.heap.size) [.slice none 0 0] := hy.bx (Bx.hold hBres_0) (by first | omega | (simp; done) | (simp; omega))
  have hFres_1 : ∀ oo, w1.frozen? ⟨w.heap.size, oo, none⟩ = false := fun oo => (hy.frozen (by first | omega | (simp; done) | (simp; omega))).trans ((fz_hold hFres_0) oo)
  clear hBres_0 hFres_0
  clear hy
  have hfa : Fr _ _ F1 := ⟨(List.nodup_append.1 hF.1).1, fun b hb => hF.2 b (by simp [hb])⟩
  have htb := (Tb.of_own hO hfa hRm newTab_ok (by rw [newTab_four]; exact Nat.le_refl _)).down (show w0.heap.size ≤ _ from (by first | omega | (simp; done) | (simp; omega)))
  have htl := hide (show newTab.atoms.length = 4 from newTab_four)
  clear hO hF hfa hRm
  obtain ⟨B2, d2, rfl, -, -⟩ := hO2.sl.form
  clear hO2
  generalize newRegs.length = n2 at *
  generalize newTab = t at *
  obtain ⟨A1, c1, rfl, -, -⟩ := htb.sl.form
  go_upto_region 2 with fail
  have hR2 := Rdr.hold (w' := (w1.alloc (.cells #[.slice A1 t.atoms.length c1] 25))) hR1
  have hT2 : Turn [rb] w (w1.alloc (.cells #[.slice A1 t.atoms.length c1] 25)) := Turn.hold hT1
  have hs2 : w1.heap.size + 1 ≤ ((w1.alloc (.cells #[.slice A1 t.atoms.length c1] 25))).heap.size := by simp
  have hx2 : Ext w1 (w1.alloc (.cells #[.slice A1 t.atoms.length c1] 25)) := Ext.auto
  have hBt_2 : Bx (w1.alloc (.cells #[.slice A1 t.atoms.length c1] 25)) (w1.heap.size) [.slice A1 t.atoms.length c1] := (show Bx (w1.alloc (.cells #[.slice A1 t.atoms.length c1] 25)) w1.heap.size [.slice A1 t.atoms.length c1] from Bx.new w1 #[.slice A1 t.atoms.length c1] 25)
  have hFt_2 : ∀ oo, (w1.alloc (.cells #[.slice A1 t.atoms.length c1] 25)).frozen? ⟨w1.heap.size, oo, none⟩ = false := (show ∀ oo, (w1.alloc (.cells #[.slice A1 t.atoms.length c1] 25)).frozen? ⟨w1.heap.size, oo, none⟩ = false from fz_new w1 #[.slice A1 t.atoms.length c1] 25 rfl)
  have hBres_2 : Bx (w1.alloc (.cells #[.slice A1 t.atoms.length c1] 25)) (w.heap.size) [.slice none 0 0] := Bx.hold hBres_1
  have hFres_2 : ∀ oo, (w1.alloc (.cells #[.slice A1 t.atoms.length c1] 25)).frozen? ⟨w.heap.size, oo, none⟩ = false := fz_hold hFres_1
  clear hBres_1 hFres_1
  replace htb := Tb.ext htb hx2
  generalize (w1.alloc (.cells #[.slice A1 t.atoms.length c1] 25)) = w2 at *
  go_wp2_with fail
  refine (pick_any rb base _ _ (Rdr.hold hR2) (by omega) 7 (by omega) (by omega)).mono ?_
  rintro e w3 ⟨⟨m, rfl, lm, qm⟩, hR3, hy⟩
  have um : m < 7 := by omega
  clear qm
  have hs3 := hy.size
  try simp at hs3
  have hT3 : Turn [rb] w w3 := (Turn.hold hT2).trans hy
  have hBres_3 : Bx w3 (w.heap.size) [.slice none 0 0] := hy.bx (Bx.hold hBres_2) (by first | omega | (simp; done) | (simp; omega)) (by simp; omega)
  have hFres_3 : ∀ oo, w3.frozen? ⟨w.heap.size, oo, none⟩ = false := fun oo => (hy.frozen (by first | omega | (simp; done) | (simp; omega)) (by simp; omega)).trans ((fz_hold hFres_2) oo)
  have hBt_3 : Bx w3 (w1.heap.size) [.slice A1 t.atoms.length c1] := hy.bx (Bx.hold hBt_2) (by first | omega | (simp; done) | (simp; omega)) (by simp; omega)
  have hFt_3 : ∀ oo, w3.frozen? ⟨w1.heap.size, oo, none⟩ = false := fun oo => (hy.frozen (by first | omega | (simp; done) | (simp; omega)) (by simp; omega)).trans ((fz_hold hFt_2) oo)
  clear hBres_2 hFres_2 hBt_2 hFt_2
  replace htb := Tb.turn (Tb.ext htb Ext.auto) hy (fun x hx => by simp at hx; omega)
  clear hy
  obtain ⟨K, rfl⟩ := Int.eq_ofNat_of_zero_le lm
  have hK6 : K ≤ 6 := by omega
  clear lm um
  go_wp2
  go_loopw [5] (fun i wz => ∃ (k : Nat) (t : TabTab) (A1 : Option Addr) (c1 : Nat), k ≤ 6 ∧ i = .int .i64 k ∧ Rdr rb base (P + (1 + 261 * (6 - k))) wz ∧ Turn [rb] w wz ∧ w3.heap.size ≤ wz.heap.size ∧ Bx wz (w.heap.size) [.slice none 0 0] ∧ (∀ oo, wz.frozen? ⟨w.heap.size, oo, none⟩ = false) ∧ Bx wz (w1.heap.size) [.slice A1 t.atoms.length c1] ∧ (∀ oo, wz.frozen? ⟨w1.heap.size, oo, none⟩ = false) ∧ Tb w0.heap.size wz.heap.size wz (.slice A1 t.atoms.length c1) t ∧ Hid (t.atoms.length ≤ 10 - k)) (fun i _ => (intOf i).toNat)
  case atStart => exact ⟨K, t, A1, c1, hK6, rfl, (Rdr.hold hR3).up (by omega), Turn.hold hT3, Nat.le_refl _, hBres_3, hFres_3, hBt_3, hFt_3, htb.to (Nat.le_refl _), hide (by have := htl.out; omega)⟩
  case round =>
    clear htb htl hR3 hT3 hK6 hBres_3 hFres_3 hBt_3 hFt_3
    obtain ⟨w4, hwr⟩ : ∃ w4 : World, w4 = wr := ⟨_, rfl⟩
    subst hwr
    obtain ⟨k, t, A1, c1, hk, rfl, hR4, hT4, hs4, hBres_4, hFres_4, hBt_4, hFt_4, htb, HL⟩ := hrel
    obtain ⟨Q, hQ⟩ : ∃ Q, Q = P + (1 + 261 * (6 - k)) := ⟨_, rfl⟩
    rw [← hQ] at hR4
    have hQP : Q ≤ 1099511500000 := by omega
    have htl := HL.out
    have HOK := hide htb.ok
    have hge := htb.ge
    by_cases hk0 : 0 < k
    · 
      have qk : decide (0 < k) = true := decide_eq_true hk0
      have qk2 : decide ((0 : Int) < (k : Int)) = true := decide_eq_true (by omega)
      have yt : w1.heap.size < w4.heap.size := by omega
      have xt0 : w4.cell? ⟨w1.heap.size, 0, none⟩ = some (.slice A1 t.atoms.length c1) := hBt_4 0 _ rfl
      have ft := hFt_4
      go_upto_region 6 with fail
      clear xt0 yt
      clear ft
      go_cut [7] (fun v9 wx => (∃ (q9 : Nat) (t2 : TabTab) (A3 : Option Addr) (c3 : Nat), v9 = .pointer (some ⟨q9, 0, none⟩) ∧ Rdr rb base (Q + 261) wx ∧ Turn [rb] w4 wx ∧ w4.heap.size ≤ q9 ∧ q9 < wx.heap.size ∧ Bx wx q9 [.slice A3 t2.atoms.length c3] ∧ (∀ oo, wx.frozen? ⟨q9, oo, none⟩ = false) ∧ Tb w4.heap.size wx.heap.size wx (.slice A3 t2.atoms.length c3) t2 ∧ t2.atoms.length ≤ t.atoms.length + 1))
      · 
        have yt : w1.heap.size < w4.heap.size := by omega
        have xt0 : w4.cell? ⟨w1.heap.size, 0, none⟩ = some (.slice A1 t.atoms.length c1) := hBt_4 0 _ rfl
        have ft := hFt_4
        have hSt : ∀ w', Turn [rb] w4 w' → ∀ oo, w'.cell? ⟨w1.heap.size, oo, none⟩ = w4.cell? ⟨w1.heap.size, oo, none⟩ := fun w' hx oo => hx.cell (by omega) (by simp; omega)
        refine wp_region_plan2 (fun w' => Turn [rb] w4 w') 17 (.float 0 (.float 1 (.float 4 (.float 5 (.float 7 (.float 8 (.alt 2 (.float 3 (.alt 6 (.alt 9 (.alt 10 (.float 11 (.float 12 (.float 13 (.alt 14 (.chain 15 (.chain 16 (.tail 17))) (.alt 15 (.chain 14 (.chain 16 (.tail 17))) (.stop)))))) (.alt 14 (.alt 10 (.float 11 (.float 12 (.float 13 (.chain 15 (.chain 16 (.tail 17)))))) (.alt 15 (.chain 10 (.float 11 (.float 12 (.float 13 (.chain 16 (.tail 17)))))) (.stop))) (.alt 15 (.alt 10 (.float 11 (.float 12 (.float 13 (.chain 14 (.chain 16 (.tail 17)))))) (.alt 14 (.chain 10 (.float 11 (.float 12 (.float 13 (.chain 16 (.tail 17)))))) (.stop))) (.stop)))) (.alt 14 (.alt 9 (.alt 10 (.float 11 (.float 12 (.float 13 (.chain 15 (.chain 16 (.tail 17)))))) (.alt 15 (.chain 10 (.float 11 (.float 12 (.float 13 (.chain 16 (.tail 17)))))) (.stop))) (.alt 15 (.chain 9 (.chain 10 (.float 11 (.float 12 (.float 13 (.chain 16 (.tail 17))))))) (.stop))) (.alt 15 (.alt 9 (.alt 10 (.float 11 (.float 12 (.float 13 (.chain 14 (.chain 16 (.tail 17)))))) (.alt 14 (.chain 10 (.float 11 (.float 12 (.float 13 (.chain 16 (.tail 17)))))) (.stop))) (.alt 14 (.chain 9 (.chain 10 (.float 11 (.float 12 (.float 13 (.chain 16 (.tail 17))))))) (.stop))) (.stop)))) (.alt 14 (.alt 6 (.alt 9 (.alt 10 (.float 11 (.float 12 (.float 13 (.chain 15 (.chain 16 (.tail 17)))))) (.alt 15 (.chain 10 (.float 11 (.float 12 (.float 13 (.chain 16 (.tail 17)))))) (.stop))) (.alt 15 (.chain 9 (.chain 10 (.float 11 (.float 12 (.float 13 (.chain 16 (.tail 17))))))) (.stop))) (.alt 15 (.chain 6 (.chain 9 (.chain 10 (.float 11 (.float 12 (.float 13 (.chain 16 (.tail 17)))))))) (.stop))) (.alt 15 (.alt 6 (.alt 9 (.alt 10 (.float 11 (.float 12 (.float 13 (.chain 14 (.chain 16 (.tail 17)))))) (.alt 14 (.chain 10 (.float 11 (.float 12 (.float 13 (.chain 16 (.tail 17)))))) (.stop))) (.alt 14 (.chain 9 (.chain 10 (.float 11 (.float 12 (.float 13 (.chain 16 (.tail 17))))))) (.stop))) (.alt 14 (.chain 6 (.chain 9 (.chain 10 (.float 11 (.float 12 (.float 13 (.chain 16 (.tail 17)))))))) (.stop))) (.stop))))) (.alt 14 (.alt 2 (.float 3 (.alt 6 (.alt 9 (.alt 10 (.float 11 (.float 12 (.float 13 (.chain 15 (.chain 16 (.tail 17)))))) (.alt 15 (.chain 10 (.float 11 (.float 12 (.float 13 (.chain 16 (.tail 17)))))) (.stop))) (.alt 15 (.chain 9 (.chain 10 (.float 11 (.float 12 (.float 13 (.chain 16 (.tail 17))))))) (.stop))) (.alt 15 (.chain 6 (.chain 9 (.chain 10 (.float 11 (.float 12 (.float 13 (.chain 16 (.tail 17)))))))) (.stop)))) (.alt 15 (.chain 2 (.float 3 (.chain 6 (.chain 9 (.chain 10 (.float 11 (.float 12 (.float 13 (.chain 16 (.tail 17)))))))))) (.stop))) (.alt 15 (.alt 2 (.float 3 (.alt 6 (.alt 9 (.alt 10 (.float 11 (.float 12 (.float 13 (.chain 14 (.chain 16 (.tail 17)))))) (.alt 14 (.chain 10 (.float 11 (.float 12 (.float 13 (.chain 16 (.tail 17)))))) (.stop))) (.alt 14 (.chain 9 (.chain 10 (.float 11 (.float 12 (.float 13 (.chain 16 (.tail 17))))))) (.stop))) (.alt 14 (.chain 6 (.chain 9 (.chain 10 (.float 11 (.float 12 (.float 13 (.chain 16 (.tail 17)))))))) (.stop)))) (.alt 14 (.chain 2 (.float 3 (.chain 6 (.chain 9 (.chain 10 (.float 11 (.float 12 (.float 13 (.chain 16 (.tail 17)))))))))) (.stop))) (.stop)))))))))) (by kernel_rfl) (by kernel_rfl) (Turn.of_ext (Ext.refl _).drew _) ?_
        have hC : Turn [rb] w4 w4.drew := Turn.of_ext (Ext.refl _).drew _
        have hR := Rdr.hold (w' := w4.drew) hR4
        replace htb := Tb.ext htb (Ext.refl _).drew
        have hsz : w4.heap.size ≤ w4.drew.heap.size := Nat.le_refl _
        generalize w4.drew = wz at *
        repeat' (first
          | with_reducible refine Plan2.alt_step ?_ ?_
          | with_reducible exact Plan2.stop_pre
          | ((with_reducible refine Plan2.float_pre ?_); (refine Plan2.float_step (v := ?_) rfl (by rfl) (fun _ _ _ h => h) (fun w' hSw => ?_) ?_; rotate_left; · (go_simp; try with_reducible rfl)); (try simp only [Act.put, List.setIfInBounds_toArray, List.set_cons_zero, List.set_cons_succ])))
        all_goals as_aux_lemma =>
          repeat' (first
            | with_reducible refine Plan2.alt_step ?_ ?_
            | with_reducible exact Plan2.stop_pre
            | ((with_reducible refine Plan2.float_pre ?_); (refine Plan2.float_step (v := ?_) rfl (by rfl) (fun _ _ _ h => h) (fun w' hSw => ?_) ?_; rotate_left; · (go_simp; try with_reducible rfl)))
            | ((with_reducible refine Plan2.chain_pre ?_)
               refine Plan2.chain_step rfl (fun K hK => ?_)
               go_simp
               first
                 | (refine (pick_any rb base _ _ (Rdr.hold hR) (by omega) 5 (by omega) (by omega)).mono ?_
                    rintro e wn ⟨⟨a, rfl, la, qa⟩, hR, hy⟩
                    have ua : a < 5 := by omega
                    clear qa
                    have zw : IntKind.i64.wrap (1 + a) = 1 + a := by rw [IntKind.wrap_i64]; omega)
                 | (have hgp0 := hgp
                    clear hgp0
                    refine (l21Poly_any rb base _ _ (Rdr.hold hR) (by omega) (t.atoms.length : Int) (by omega) (by omega)).mono ?_
                    rintro e wn ⟨⟨q, A6, c6, rfl, hgq, hkq, huq⟩, hR, hy⟩
                    replace hgq := (GlB.of_gl hgq).down (show wz.heap.size ≤ _ from (by first | omega | (simp; done) | (simp; omega)))
                    have HPq := hide (And.intro hkq huq)
                    clear hkq huq)
                 | (refine (l21Poly_any rb base _ _ (Rdr.hold hR) (by omega) (t.atoms.length : Int) (by omega) (by omega)).mono ?_
                    rintro e wn ⟨⟨p, A5, c5, rfl, hgp, hkp, hup⟩, hR, hy⟩
                    replace hgp := (GlB.of_gl hgp).down (show wz.heap.size ≤ _ from (by first | omega | (simp; done) | (simp; omega)))
                    have HPp := hide (And.intro hkp hup)
                    clear hkp hup)
                 | (refine (specTabDo_any t (1 + a) p q _ _ _ _ htb.sl hgp.sl hgq.sl (by omega) (by omega) HOK.out (by omega) HPp.out.1 HPq.out.1 HPp.out.2 HPq.out.2).mono ?_
                    rintro e wn ⟨t2, r, F, A7, n7, c7, rfl, hO, hF, hRm, hok2, hg1, hg2, hx⟩
                    replace hR := hR.ext hx
                    have hy := Turn.of_ext hx [rb]
                    have htb2 := (Tb.of_own hO hF hRm hok2 (by omega)).down (show wz.heap.size ≤ _ from (by first | omega | (simp; done) | (simp; omega)))
                    clear hO hF hRm hok2
                    obtain ⟨A3, c3, rfl, -, -⟩ := htb2.sl.form)
                 | (have hC : Turn [rb] w4 (wz.alloc (.cells #[.slice none 0 0] 25)) := Turn.hold hC
                    with_reducible refine hK.out _ _ hC ?_
                    have hy : Turn [rb] wz (wz.alloc (.cells #[.slice none 0 0] 25)) := Turn.hold (Turn.refl _ _)
                    have hR := Rdr.hold (w' := (wz.alloc (.cells #[.slice none 0 0] 25))) hR
                    have hz : wz.heap.size < (wz.alloc (.cells #[.slice none 0 0] 25)).heap.size := by simp
                    have hBu : Bx (wz.alloc (.cells #[.slice none 0 0] 25)) wz.heap.size [.slice none 0 0] := Bx.new wz #[.slice none 0 0] 25
                    have hFu : ∀ oo, (wz.alloc (.cells #[.slice none 0 0] 25)).frozen? ⟨wz.heap.size, oo, none⟩ = false := fz_new wz #[.slice none 0 0] 25 rfl
                    generalize (wz.alloc (.cells #[.slice none 0 0] 25)) = wn at *
                    obtain ⟨qu, hqu⟩ : ∃ q, wz.heap.size = q := ⟨_, rfl⟩
                    rw [hqu] at hBu hFu ⊢)
                 | (have hC : Turn [rb] w4 (wz.alloc (.cells #[.slice none 0 0] 28)) := Turn.hold hC
                    with_reducible refine hK.out _ _ hC ?_
                    have hy : Turn [rb] wz (wz.alloc (.cells #[.slice none 0 0] 28)) := Turn.hold (Turn.refl _ _)
                    have hR := Rdr.hold (w' := (wz.alloc (.cells #[.slice none 0 0] 28))) hR
                    have hz : wz.heap.size < (wz.alloc (.cells #[.slice none 0 0] 28)).heap.size := by simp
                    have hBo : Bx (wz.alloc (.cells #[.slice none 0 0] 28)) wz.heap.size [.slice none 0 0] := Bx.new wz #[.slice none 0 0] 28
                    have hFo : ∀ oo, (wz.alloc (.cells #[.slice none 0 0] 28)).frozen? ⟨wz.heap.size, oo, none⟩ = false := fz_new wz #[.slice none 0 0] 28 rfl
                    generalize (wz.alloc (.cells #[.slice none 0 0] 28)) = wn at *
                    obtain ⟨qo, hqo⟩ : ∃ q, wz.heap.size = q := ⟨_, rfl⟩
                    rw [hqo] at hBo hFo ⊢)
                 | (have hC : Turn [rb] w4 (wz.setCell ⟨qu, 0, none⟩ (.slice A3 t2.atoms.length c3)) := Turn.hold hC
                    with_reducible refine hK.out _ _ hC ?_
                    have hy : Turn [qu] wz (wz.setCell ⟨qu, 0, none⟩ (.slice A3 t2.atoms.length c3)) := Turn.hold (Turn.refl _ _)
                    have hR := Rdr.hold (w' := (wz.setCell ⟨qu, 0, none⟩ (.slice A3 t2.atoms.length c3))) hR
                    have hBu : Bx (wz.setCell ⟨qu, 0, none⟩ (.slice A3 t2.atoms.length c3)) qu [.slice A3 t2.atoms.length c3] := by have := Bx.put hBu (j := 0) (by simp) (.slice A3 t2.atoms.length c3); simpa using this
                    have hFu : ∀ oo, (wz.setCell ⟨qu, 0, none⟩ (.slice A3 t2.atoms.length c3)).frozen? ⟨qu, oo, none⟩ = false := fz_hold hFu
                    generalize (wz.setCell ⟨qu, 0, none⟩ (.slice A3 t2.atoms.length c3)) = wn at *)
               have hsz := hy.size
               try replace htb := Tb.turn htb hy (fun x hx => by simp at hx; omega)
               try replace hgp := GlB.turn hgp hy (fun x hx => by simp at hx; omega)
               try replace hgq := GlB.turn hgq hy (fun x hx => by simp at hx; omega)
               try replace htb2 := Tb.turn htb2 hy (fun x hx => by simp at hx; omega)
               try replace hBu := hy.bx hBu (by omega) (by simp; omega)
               try replace hFu := fun oo => (hy.frozen (by omega) (by simp; omega)).trans (hFu oo)
               try replace hBo := hy.bx hBo (by omega) (by simp; omega)
               try replace hFo := fun oo => (hy.frozen (by omega) (by simp; omega)).trans (hFo oo)
               try replace hC := hC.trans hy
               try refine hK.out _ _ hC ?_
               clear hK hy
               obtain ⟨wz, hwz⟩ : ∃ wz : World, wz = wn := ⟨_, rfl⟩
               subst hwz
               try clear xu yu fu
               try (have xu := hBu 0 _ rfl; have yu : qu < wz.heap.size := (by omega); have fu := hFu)
               try clear xo yo fo
               try (have xo := hBo 0 _ rfl; have yo : qo < wz.heap.size := (by omega); have fo := hFo)
               (try simp only [Act.put, List.setIfInBounds_toArray, List.set_cons_zero, List.set_cons_succ])))
          all_goals
            refine Plan2.tail_step ?_
            simp only [List.drop_succ_cons, List.drop_zero]
            clear hSt
            go_wp2_with fail
            go_meet
            exact ⟨_, t2, A3, c3, rfl, (Rdr.hold hR).up (by omega), Turn.hold hC, by omega, by simp; omega, Bx.hold hBu, fz_hold hFu, (Tb.turn (F := [qo]) htb2 (Turn.hold (Turn.refl _ _)) (fun x hx => by simp at hx; omega)).to (by omega), hg2⟩
      clear htb
      obtain ⟨w5, hwc⟩ : ∃ w5 : World, w5 = wc := ⟨_, rfl⟩
      subst hwc
      obtain ⟨q9, t2, A3, c3, rfl, hR5, hyT, hq9, hq8, hBq_5, hFq_5, htb2, hl2⟩ := hcut
      have hs5 := hyT.size
      have hT5 : Turn [rb] w w5 := hT4.trans hyT
      have hBres_5 : Bx w5 (w.heap.size) [.slice none 0 0] := hyT.bx (Bx.hold hBres_4) (by first | omega | (simp; done) | (simp; omega)) (by simp; omega)
      have hFres_5 : ∀ oo, w5.frozen? ⟨w.heap.size, oo, none⟩ = false := fun oo => (hyT.frozen (by first | omega | (simp; done) | (simp; omega)) (by simp; omega)).trans ((fz_hold hFres_4) oo)
      have hBt_5 : Bx w5 (w1.heap.size) [.slice A1 t.atoms.length c1] := hyT.bx (Bx.hold hBt_4) (by first | omega | (simp; done) | (simp; omega)) (by simp; omega)
      have hFt_5 : ∀ oo, w5.frozen? ⟨w1.heap.size, oo, none⟩ = false := fun oo => (hyT.frozen (by first | omega | (simp; done) | (simp; omega)) (by simp; omega)).trans ((fz_hold hFt_4) oo)
      clear hBres_4 hFres_4 hBt_4 hFt_4
      clear hyT
      have yq : q9 < w5.heap.size := by omega
      have xq0 : w5.cell? ⟨q9, 0, none⟩ = some (.slice A3 t2.atoms.length c3) := hBq_5 0 _ rfl
      have fq := hFq_5
      have yt : w1.heap.size < w5.heap.size := by omega
      have xt0 : w5.cell? ⟨w1.heap.size, 0, none⟩ = some (.slice A1 t.atoms.length c1) := hBt_5 0 _ rfl
      have ft := hFt_5
      go_upto_region 4 with fail
      clear xq0 yq
      clear fq
      clear xt0 yt
      clear ft
      have hR6 := Rdr.hold (w' := (w5.setCell ⟨w1.heap.size, 0, none⟩ (.slice A3 t2.atoms.length c3))) hR5
      have hT6 : Turn [rb] w (w5.setCell ⟨w1.heap.size, 0, none⟩ (.slice A3 t2.atoms.length c3)) := Turn.hold hT5
      have hs6 : w5.heap.size ≤ ((w5.setCell ⟨w1.heap.size, 0, none⟩ (.slice A3 t2.atoms.length c3))).heap.size := by simp
      have hBt_6 : Bx (w5.setCell ⟨w1.heap.size, 0, none⟩ (.slice A3 t2.atoms.length c3)) (w1.heap.size) [.slice A3 t2.atoms.length c3] := by have := Bx.put hBt_5 (j := 0) (by simp) (.slice A3 t2.atoms.length c3); simpa using this
      have hFt_6 : ∀ oo, (w5.setCell ⟨w1.heap.size, 0, none⟩ (.slice A3 t2.atoms.length c3)).frozen? ⟨w1.heap.size, oo, none⟩ = false := fz_hold hFt_5
      have hBres_6 : Bx (w5.setCell ⟨w1.heap.size, 0, none⟩ (.slice A3 t2.atoms.length c3)) (w.heap.size) [.slice none 0 0] := Bx.hold hBres_5
      have hFres_6 : ∀ oo, (w5.setCell ⟨w1.heap.size, 0, none⟩ (.slice A3 t2.atoms.length c3)).frozen? ⟨w.heap.size, oo, none⟩ = false := fz_hold hFres_5
      have hBq_6 : Bx (w5.setCell ⟨w1.heap.size, 0, none⟩ (.slice A3 t2.atoms.length c3)) (q9) [.slice A3 t2.atoms.length c3] := Bx.hold hBq_5
      have hFq_6 : ∀ oo, (w5.setCell ⟨w1.heap.size, 0, none⟩ (.slice A3 t2.atoms.length c3)).frozen? ⟨q9, oo, none⟩ = false := fz_hold hFq_5
      clear hBres_5 hFres_5 hBt_5 hFt_5 hBq_5 hFq_5
      have htb2_ := Tb.turn (w' := (w5.setCell ⟨w1.heap.size, 0, none⟩ (.slice A3 t2.atoms.length c3))) (F := [w1.heap.size]) htb2 (Turn.hold (Turn.refl _ _)) (fun x hx => by simp at hx; omega)
      clear htb2
      have htb2 := htb2_
      clear htb2_
      generalize (w5.setCell ⟨w1.heap.size, 0, none⟩ (.slice A3 t2.atoms.length c3)) = w6 at *
      go_wp2_with fail
      go_roundw
      case rel => exact ⟨k - 1, t2, A3, c3, by omega, by go_num, (Rdr.hold hR6).up (by omega), Turn.hold hT6, by first | omega | (simp; done) | (simp; omega), hBres_6, hFres_6, hBt_6, hFt_6, htb2.to (by omega), hide (by omega)⟩
      case measure => simp [intOf]; omega
    · 
      have qk : decide (0 < k) = false := decide_eq_false hk0
      have qk2 : decide ((0 : Int) < (k : Int)) = false := decide_eq_false (by omega)
      go_wp2_with fail
      refine (pick_any rb base _ _ (Rdr.hold hR4) (by omega) 3 (by omega) (by omega)).mono ?_
      rintro e w5 ⟨⟨v, rfl, lv, qv⟩, hR5, hy⟩
      have uv : v < 3 := by omega
      clear qv
      have hs5 := hy.size
      try simp at hs5
      have hT5 : Turn [rb] w w5 := (Turn.hold hT4).trans hy
      have hBres_5 : Bx w5 (w.heap.size) [.slice none 0 0] := hy.bx (Bx.hold hBres_4) (by first | omega | (simp; done) | (simp; omega)) (by simp; omega)
      have hFres_5 : ∀ oo, w5.frozen? ⟨w.heap.size, oo, none⟩ = false := fun oo => (hy.frozen (by first | omega | (simp; done) | (simp; omega)) (by simp; omega)).trans ((fz_hold hFres_4) oo)
      have hBt_5 : Bx w5 (w1.heap.size) [.slice A1 t.atoms.length c1] := hy.bx (Bx.hold hBt_4) (by first | omega | (simp; done) | (simp; omega)) (by simp; omega)
      have hFt_5 : ∀ oo, w5.frozen? ⟨w1.heap.size, oo, none⟩ = false := fun oo => (hy.frozen (by first | omega | (simp; done) | (simp; omega)) (by simp; omega)).trans ((fz_hold hFt_4) oo)
      clear hBres_4 hFres_4 hBt_4 hFt_4
      replace htb := Tb.turn (Tb.ext htb Ext.auto) hy (fun x hx => by simp at hx; omega)
      clear hy
      have q3 : (v == 0) = decide (v = 0) := rfl
      by_cases hv0 : v = 0
      · 
        subst hv0
        have yt : w1.heap.size < w5.heap.size := by omega
        have xt0 : w5.cell? ⟨w1.heap.size, 0, none⟩ = some (.slice A1 t.atoms.length c1) := hBt_5 0 _ rfl
        have ft := hFt_5
        go_upto_region 9 with fail
        clear xt0 yt
        clear ft
        go_cut [9] (fun v9 wx => (∃ (q9 : Nat) (t2 : TabTab) (A3 : Option Addr) (c3 : Nat), v9 = .pointer (some ⟨q9, 0, none⟩) ∧ Rdr rb base (Q + 3) wx ∧ Turn [rb] w5 wx ∧ w5.heap.size ≤ q9 ∧ q9 < wx.heap.size ∧ Bx wx q9 [.slice A3 t2.atoms.length c3] ∧ (∀ oo, wx.frozen? ⟨q9, oo, none⟩ = false) ∧ Tb w5.heap.size wx.heap.size wx (.slice A3 t2.atoms.length c3) t2 ∧ t2.atoms.length ≤ t.atoms.length + 1))
        · 
          have yt : w1.heap.size < w5.heap.size := by omega
          have xt0 : w5.cell? ⟨w1.heap.size, 0, none⟩ = some (.slice A1 t.atoms.length c1) := hBt_5 0 _ rfl
          have ft := hFt_5
          have hSt : ∀ w', Turn [rb] w5 w' → ∀ oo, w'.cell? ⟨w1.heap.size, oo, none⟩ = w5.cell? ⟨w1.heap.size, oo, none⟩ := fun w' hx oo => hx.cell (by omega) (by simp; omega)
          refine wp_region_plan2 (fun w' => Turn [rb] w5 w') 15 (.float 0 (.float 2 (.float 6 (.alt 1 (.alt 3 (.float 4 (.alt 5 (.alt 7 (.float 8 (.alt 9 (.float 10 (.float 11 (.float 12 (.chain 13 (.chain 14 (.tail 15)))))) (.alt 13 (.chain 9 (.float 10 (.float 11 (.float 12 (.chain 14 (.tail 15)))))) (.stop)))) (.alt 13 (.chain 7 (.float 8 (.chain 9 (.float 10 (.float 11 (.float 12 (.chain 14 (.tail 15)))))))) (.stop))) (.alt 7 (.alt 5 (.float 8 (.alt 9 (.float 10 (.float 11 (.float 12 (.chain 13 (.chain 14 (.tail 15)))))) (.alt 13 (.chain 9 (.float 10 (.float 11 (.float 12 (.chain 14 (.tail 15)))))) (.stop)))) (.alt 13 (.chain 5 (.float 8 (.chain 9 (.float 10 (.float 11 (.float 12 (.chain 14 (.tail 15)))))))) (.stop))) (.alt 13 (.alt 5 (.chain 7 (.float 8 (.chain 9 (.float 10 (.float 11 (.float 12 (.chain 14 (.tail 15)))))))) (.alt 7 (.chain 5 (.float 8 (.chain 9 (.float 10 (.float 11 (.float 12 (.chain 14 (.tail 15)))))))) (.stop))) (.stop))))) (.alt 13 (.chain 3 (.float 4 (.alt 5 (.chain 7 (.float 8 (.chain 9 (.float 10 (.float 11 (.float 12 (.chain 14 (.tail 15)))))))) (.alt 7 (.chain 5 (.float 8 (.chain 9 (.float 10 (.float 11 (.float 12 (.chain 14 (.tail 15)))))))) (.stop))))) (.stop))) (.alt 3 (.alt 1 (.float 4 (.alt 5 (.alt 7 (.float 8 (.alt 9 (.float 10 (.float 11 (.float 12 (.chain 13 (.chain 14 (.tail 15)))))) (.alt 13 (.chain 9 (.float 10 (.float 11 (.float 12 (.chain 14 (.tail 15)))))) (.stop)))) (.alt 13 (.chain 7 (.float 8 (.chain 9 (.float 10 (.float 11 (.float 12 (.chain 14 (.tail 15)))))))) (.stop))) (.alt 7 (.alt 5 (.float 8 (.alt 9 (.float 10 (.float 11 (.float 12 (.chain 13 (.chain 14 (.tail 15)))))) (.alt 13 (.chain 9 (.float 10 (.float 11 (.float 12 (.chain 14 (.tail 15)))))) (.stop)))) (.alt 13 (.chain 5 (.float 8 (.chain 9 (.float 10 (.float 11 (.float 12 (.chain 14 (.tail 15)))))))) (.stop))) (.alt 13 (.alt 5 (.chain 7 (.float 8 (.chain 9 (.float 10 (.float 11 (.float 12 (.chain 14 (.tail 15)))))))) (.alt 7 (.chain 5 (.float 8 (.chain 9 (.float 10 (.float 11 (.float 12 (.chain 14 (.tail 15)))))))) (.stop))) (.stop))))) (.alt 7 (.alt 1 (.float 4 (.alt 5 (.float 8 (.alt 9 (.float 10 (.float 11 (.float 12 (.chain 13 (.chain 14 (.tail 15)))))) (.alt 13 (.chain 9 (.float 10 (.float 11 (.float 12 (.chain 14 (.tail 15)))))) (.stop)))) (.alt 13 (.chain 5 (.float 8 (.chain 9 (.float 10 (.float 11 (.float 12 (.chain 14 (.tail 15)))))))) (.stop)))) (.alt 13 (.chain 1 (.float 4 (.chain 5 (.float 8 (.chain 9 (.float 10 (.float 11 (.float 12 (.chain 14 (.tail 15)))))))))) (.stop))) (.alt 13 (.alt 1 (.float 4 (.alt 5 (.chain 7 (.float 8 (.chain 9 (.float 10 (.float 11 (.float 12 (.chain 14 (.tail 15)))))))) (.alt 7 (.chain 5 (.float 8 (.chain 9 (.float 10 (.float 11 (.float 12 (.chain 14 (.tail 15)))))))) (.stop)))) (.alt 7 (.chain 1 (.float 4 (.chain 5 (.float 8 (.chain 9 (.float 10 (.float 11 (.float 12 (.chain 14 (.tail 15)))))))))) (.stop))) (.stop)))) (.alt 13 (.alt 1 (.chain 3 (.float 4 (.alt 5 (.chain 7 (.float 8 (.chain 9 (.float 10 (.float 11 (.float 12 (.chain 14 (.tail 15)))))))) (.alt 7 (.chain 5 (.float 8 (.chain 9 (.float 10 (.float 11 (.float 12 (.chain 14 (.tail 15)))))))) (.stop))))) (.alt 3 (.alt 1 (.float 4 (.alt 5 (.chain 7 (.float 8 (.chain 9 (.float 10 (.float 11 (.float 12 (.chain 14 (.tail 15)))))))) (.alt 7 (.chain 5 (.float 8 (.chain 9 (.float 10 (.float 11 (.float 12 (.chain 14 (.tail 15)))))))) (.stop)))) (.alt 7 (.chain 1 (.float 4 (.chain 5 (.float 8 (.chain 9 (.float 10 (.float 11 (.float 12 (.chain 14 (.tail 15)))))))))) (.stop))) (.stop))) (.stop))))))) (by kernel_rfl) (by kernel_rfl) (Turn.of_ext (Ext.refl _).drew _) ?_
          have hC : Turn [rb] w5 w5.drew := Turn.of_ext (Ext.refl _).drew _
          have hR := Rdr.hold (w' := w5.drew) hR5
          replace htb := Tb.ext htb (Ext.refl _).drew
          have hsz : w5.heap.size ≤ w5.drew.heap.size := Nat.le_refl _
          generalize w5.drew = wz at *
          repeat' (first
            | with_reducible refine Plan2.alt_step ?_ ?_
            | with_reducible exact Plan2.stop_pre
            | ((with_reducible refine Plan2.float_pre ?_); (refine Plan2.float_step (v := ?_) rfl (by rfl) (fun _ _ _ h => h) (fun w' hSw => ?_) ?_; rotate_left; · (go_simp; try with_reducible rfl)); (try simp only [Act.put, List.setIfInBounds_toArray, List.set_cons_zero, List.set_cons_succ])))
          all_goals as_aux_lemma =>
            repeat' (first
              | with_reducible refine Plan2.alt_step ?_ ?_
              | with_reducible exact Plan2.stop_pre
              | ((with_reducible refine Plan2.float_pre ?_); (refine Plan2.float_step (v := ?_) rfl (by rfl) (fun _ _ _ h => h) (fun w' hSw => ?_) ?_; rotate_left; · (go_simp; try with_reducible rfl)))
              | ((with_reducible refine Plan2.chain_pre ?_)
                 refine Plan2.chain_step rfl (fun K hK => ?_)
                 go_simp
                 first
                   | (have eV0 := eV
                      clear eV0
                      with_reducible refine hK.out _ _ hC ?_
                      have hy : Turn [rb] wz wz := Turn.refl _ _
                      have hb2 := (show ∀ zz ∈ ([2, 3] : List Int), 2 ≤ zz ∧ zz < 4 by intro zz hzz; simp at hzz; omega) _ (List.getElem_mem (l := [2, 3]) (n := V) hV)
                      generalize ([2, 3] : List Int)[V] = kd at *
                      have lkd := hb2.1
                      have ukd := hb2.2
                      clear hb2 hBv z0 z1
                      obtain ⟨wn, hwn⟩ : ∃ wn : World, wn = wz := ⟨_, rfl⟩
                      subst hwn)
                   | (have hV0 := hV
                      clear hV0
                      refine (pick_any rb base _ _ (Rdr.hold hR) (by omega) 3 (by omega) (by omega)).mono ?_
                      rintro e wn ⟨⟨a, rfl, la, qa⟩, hR, hy⟩
                      have ua : a < 3 := by omega
                      clear qa)
                   | (refine (pick_any rb base _ _ (Rdr.hold hR) (by omega) 2 (by omega) (by omega)).mono ?_
                      rintro e wn ⟨⟨iv, rfl, li, qi⟩, hR, hy⟩
                      obtain ⟨V, rfl⟩ := Int.eq_ofNat_of_zero_le li
                      have hV : V < 2 := by omega
                      clear qi
                      have z0 : (0 : Int) ≤ (V : Int) := by omega
                      have z1 : (V : Int) < 2 := by omega)
                   | (refine (specTabPut_any t ⟨kd, a, ⟨[]⟩, ⟨[]⟩⟩ _ _ _ _ htb.sl (Sl.nil _ _) (Sl.nil _ _) ⟨(show Fits kd by unfold Fits; omega), (show Fits a by unfold Fits; omega)⟩ (by have := (tab_blk HOK.out).2; omega) (by have := atom_blk (bare_ok (n := 0) lkd ukd la ua); omega)).mono ?_
                      rintro e wn ⟨r, F, rfl, hO, hF, hx, hRm⟩
                      replace hR := hR.ext hx
                      have hy := Turn.of_ext hx [rb]
                      have hdp := do_put HOK.out (show t.atoms.length < 200 by omega) (bare_ok (n := (t.atoms.length : Int)) lkd ukd la ua)
                      obtain ⟨-, -, hok2, hg1, hg2⟩ := hdp
                      generalize tabPut t ⟨kd, a, ⟨[]⟩, ⟨[]⟩⟩ = t2 at *
                      have htb2 := (Tb.of_own hO hF hRm hok2 (by omega)).down (show wz.heap.size ≤ _ from (by first | omega | (simp; done) | (simp; omega)))
                      clear hO hF hRm hok2
                      obtain ⟨A3, c3, rfl, -, -⟩ := htb2.sl.form)
                   | (have hC : Turn [rb] w5 (wz.alloc (.cells #[.int .i64 2, .int .i64 3] 3)) := Turn.hold hC
                      with_reducible refine hK.out _ _ hC ?_
                      have hy : Turn [rb] wz (wz.alloc (.cells #[.int .i64 2, .int .i64 3] 3)) := Turn.hold (Turn.refl _ _)
                      have hR := Rdr.hold (w' := (wz.alloc (.cells #[.int .i64 2, .int .i64 3] 3))) hR
                      have hz : wz.heap.size < (wz.alloc (.cells #[.int .i64 2, .int .i64 3] 3)).heap.size := by simp
                      have hBv : Bx (wz.alloc (.cells #[.int .i64 2, .int .i64 3] 3)) wz.heap.size [.int .i64 2, .int .i64 3] := Bx.new wz #[.int .i64 2, .int .i64 3] 3
                      have hFv : ∀ oo, (wz.alloc (.cells #[.int .i64 2, .int .i64 3] 3)).frozen? ⟨wz.heap.size, oo, none⟩ = false := fz_new wz #[.int .i64 2, .int .i64 3] 3 rfl
                      generalize (wz.alloc (.cells #[.int .i64 2, .int .i64 3] 3)) = wn at *
                      obtain ⟨qv, hqv⟩ : ∃ q, wz.heap.size = q := ⟨_, rfl⟩
                      rw [hqv] at hBv hFv ⊢)
                   | (have hC : Turn [rb] w5 (wz.alloc (.cells #[.slice none 0 0] 25)) := Turn.hold hC
                      with_reducible refine hK.out _ _ hC ?_
                      have hy : Turn [rb] wz (wz.alloc (.cells #[.slice none 0 0] 25)) := Turn.hold (Turn.refl _ _)
                      have hR := Rdr.hold (w' := (wz.alloc (.cells #[.slice none 0 0] 25))) hR
                      have hz : wz.heap.size < (wz.alloc (.cells #[.slice none 0 0] 25)).heap.size := by simp
                      have hBu : Bx (wz.alloc (.cells #[.slice none 0 0] 25)) wz.heap.size [.slice none 0 0] := Bx.new wz #[.slice none 0 0] 25
                      have hFu : ∀ oo, (wz.alloc (.cells #[.slice none 0 0] 25)).frozen? ⟨wz.heap.size, oo, none⟩ = false := fz_new wz #[.slice none 0 0] 25 rfl
                      generalize (wz.alloc (.cells #[.slice none 0 0] 25)) = wn at *
                      obtain ⟨qu, hqu⟩ : ∃ q, wz.heap.size = q := ⟨_, rfl⟩
                      rw [hqu] at hBu hFu ⊢)
                   | (have hC : Turn [rb] w5 (wz.setCell ⟨qu, 0, none⟩ (.slice A3 t2.atoms.length c3)) := Turn.hold hC
                      with_reducible refine hK.out _ _ hC ?_
                      have hy : Turn [qu] wz (wz.setCell ⟨qu, 0, none⟩ (.slice A3 t2.atoms.length c3)) := Turn.hold (Turn.refl _ _)
                      have hR := Rdr.hold (w' := (wz.setCell ⟨qu, 0, none⟩ (.slice A3 t2.atoms.length c3))) hR
                      have hBu : Bx (wz.setCell ⟨qu, 0, none⟩ (.slice A3 t2.atoms.length c3)) qu [.slice A3 t2.atoms.length c3] := by have := Bx.put hBu (j := 0) (by simp) (.slice A3 t2.atoms.length c3); simpa using this
                      have hFu : ∀ oo, (wz.setCell ⟨qu, 0, none⟩ (.slice A3 t2.atoms.length c3)).frozen? ⟨qu, oo, none⟩ = false := fz_hold hFu
                      generalize (wz.setCell ⟨qu, 0, none⟩ (.slice A3 t2.atoms.length c3)) = wn at *)
                 have hsz := hy.size
                 try replace htb := Tb.turn htb hy (fun x hx => by simp at hx; omega)
                 try replace htb2 := Tb.turn htb2 hy (fun x hx => by simp at hx; omega)
                 try replace hBu := hy.bx hBu (by omega) (by simp; omega)
                 try replace hFu := fun oo => (hy.frozen (by omega) (by simp; omega)).trans (hFu oo)
                 try replace hBv := hy.bx hBv (by omega) (by simp; omega)
                 try replace hFv := fun oo => (hy.frozen (by omega) (by simp; omega)).trans (hFv oo)
                 try replace hC := hC.trans hy
                 try refine hK.out _ _ hC ?_
                 clear hK hy
                 obtain ⟨wz, hwz⟩ : ∃ wz : World, wz = wn := ⟨_, rfl⟩
                 subst hwz
                 try clear xu yu fu
                 try (have xu := hBu 0 _ rfl; have yu : qu < wz.heap.size := (by omega); have fu := hFu)
                 try clear eV yv
                 try (have hBt : Bx wz qv (List.map (Value.int .i64) [2, 3]) := hBv; have eV := hBt.at_ (v := V) hV; have yv : qv < wz.heap.size := (by omega); clear hBt)
                 (try simp only [Act.put, List.setIfInBounds_toArray, List.set_cons_zero, List.set_cons_succ])))
            all_goals
              refine Plan2.tail_step ?_
              simp only [List.drop_succ_cons, List.drop_zero]
              clear hSt
              go_wp2_with fail
              go_meet
              exact ⟨_, t2, A3, c3, rfl, (Rdr.hold hR).up (by omega), Turn.hold hC, by omega, by omega, hBu, hFu, htb2.to (by omega), hg2⟩
        clear htb
        obtain ⟨w6, hwc⟩ : ∃ w6 : World, w6 = wc := ⟨_, rfl⟩
        subst hwc
        obtain ⟨q9, t2, A3, c3, rfl, hR6, hyT, hq9, hq8, hBq_6, hFq_6, htb2, hl2⟩ := hcut
        have hs6 := hyT.size
        have hT6 : Turn [rb] w w6 := hT5.trans hyT
        have hBres_6 : Bx w6 (w.heap.size) [.slice none 0 0] := hyT.bx (Bx.hold hBres_5) (by first | omega | (simp; done) | (simp; omega)) (by simp; omega)
        have hFres_6 : ∀ oo, w6.frozen? ⟨w.heap.size, oo, none⟩ = false := fun oo => (hyT.frozen (by first | omega | (simp; done) | (simp; omega)) (by simp; omega)).trans ((fz_hold hFres_5) oo)
        have hBt_6 : Bx w6 (w1.heap.size) [.slice A1 t.atoms.length c1] := hyT.bx (Bx.hold hBt_5) (by first | omega | (simp; done) | (simp; omega)) (by simp; omega)
        have hFt_6 : ∀ oo, w6.frozen? ⟨w1.heap.size, oo, none⟩ = false := fun oo => (hyT.frozen (by first | omega | (simp; done) | (simp; omega)) (by simp; omega)).trans ((fz_hold hFt_5) oo)
        clear hBres_5 hFres_5 hBt_5 hFt_5
        clear hyT
        have yq : q9 < w6.heap.size := by omega
        have xq0 : w6.cell? ⟨q9, 0, none⟩ = some (.slice A3 t2.atoms.length c3) := hBq_6 0 _ rfl
        have fq := hFq_6
        have yt : w1.heap.size < w6.heap.size := by omega
        have xt0 : w6.cell? ⟨w1.heap.size, 0, none⟩ = some (.slice A1 t.atoms.length c1) := hBt_6 0 _ rfl
        have ft := hFt_6
        go_upto_region 11 with fail
        clear xq0 yq
        clear fq
        clear xt0 yt
        clear ft
        have hR7 := Rdr.hold (w' := (w6.setCell ⟨w1.heap.size, 0, none⟩ (.slice A3 t2.atoms.length c3))) hR6
        have hT7 : Turn [rb] w (w6.setCell ⟨w1.heap.size, 0, none⟩ (.slice A3 t2.atoms.length c3)) := Turn.hold hT6
        have hs7 : w6.heap.size ≤ ((w6.setCell ⟨w1.heap.size, 0, none⟩ (.slice A3 t2.atoms.length c3))).heap.size := by simp
        have hBt_7 : Bx (w6.setCell ⟨w1.heap.size, 0, none⟩ (.slice A3 t2.atoms.length c3)) (w1.heap.size) [.slice A3 t2.atoms.length c3] := by have := Bx.put hBt_6 (j := 0) (by simp) (.slice A3 t2.atoms.length c3); simpa using this
        have hFt_7 : ∀ oo, (w6.setCell ⟨w1.heap.size, 0, none⟩ (.slice A3 t2.atoms.length c3)).frozen? ⟨w1.heap.size, oo, none⟩ = false := fz_hold hFt_6
        have hBres_7 : Bx (w6.setCell ⟨w1.heap.size, 0, none⟩ (.slice A3 t2.atoms.length c3)) (w.heap.size) [.slice none 0 0] := Bx.hold hBres_6
        have hFres_7 : ∀ oo, (w6.setCell ⟨w1.heap.size, 0, none⟩ (.slice A3 t2.atoms.length c3)).frozen? ⟨w.heap.size, oo, none⟩ = false := fz_hold hFres_6
        have hBq_7 : Bx (w6.setCell ⟨w1.heap.size, 0, none⟩ (.slice A3 t2.atoms.length c3)) (q9) [.slice A3 t2.atoms.length c3] := Bx.hold hBq_6
        have hFq_7 : ∀ oo, (w6.setCell ⟨w1.heap.size, 0, none⟩ (.slice A3 t2.atoms.length c3)).frozen? ⟨q9, oo, none⟩ = false := fz_hold hFq_6
        clear hBres_6 hFres_6 hBt_6 hFt_6 hBq_6 hFq_6
        have htb2_ := Tb.turn (w' := (w6.setCell ⟨w1.heap.size, 0, none⟩ (.slice A3 t2.atoms.length c3))) (F := [w1.heap.size]) htb2 (Turn.hold (Turn.refl _ _)) (fun x hx => by simp at hx; omega)
        clear htb2
        have htb2 := htb2_
        clear htb2_
        generalize (w6.setCell ⟨w1.heap.size, 0, none⟩ (.slice A3 t2.atoms.length c3)) = w7 at *
        have yt : w1.heap.size < w7.heap.size := by omega
        have xt0 : w7.cell? ⟨w1.heap.size, 0, none⟩ = some (.slice A3 t2.atoms.length c3) := hBt_7 0 _ rfl
        have ft := hFt_7
        have yres : w.heap.size < w7.heap.size := by omega
        have xres0 : w7.cell? ⟨w.heap.size, 0, none⟩ = some (.slice none 0 0) := hBres_7 0 _ rfl
        have fres := hFres_7
        go_wp2
        refine bodyPost_ret (v := .agg #[.slice A3 t2.atoms.length c3]) (by simp [results, Try.results51, go_sem, xres0]) rfl ⟨⟨t2, A3, c3, rfl, (Tb.turn (F := [w.heap.size]) htb2 (Turn.hold (Turn.refl _ _)) (fun x hx => by simp at hx; omega)).to (by omega), by omega⟩, (Rdr.hold hR7).up (by omega), Turn.hold hT7⟩
      · 
        have yt : w1.heap.size < w5.heap.size := by omega
        have xt0 : w5.cell? ⟨w1.heap.size, 0, none⟩ = some (.slice A1 t.atoms.length c1) := hBt_5 0 _ rfl
        have ft := hFt_5
        have yres : w.heap.size < w5.heap.size := by omega
        have xres0 : w5.cell? ⟨w.heap.size, 0, none⟩ = some (.slice none 0 0) := hBres_5 0 _ rfl
        have fres := hFres_5
        go_wp2
        refine bodyPost_ret (v := .agg #[.slice A1 t.atoms.length c1]) (by simp [results, Try.results51, go_sem, xres0]) rfl ⟨⟨t, A1, c1, rfl, (Tb.turn (F := [w.heap.size]) htb (Turn.hold (Turn.refl _ _)) (fun x hx => by simp at hx; omega)).to (by omega), by omega⟩, (Rdr.hold hR5).up (by omega), Turn.hold hT5⟩

end Go.Proofs.Ytmbclopkopfngaa
