/-
  DrawP
-/
import Derived.Test.YtmbclopkopfngaaQPick
import Derived.Test.YtmbclopkopfngaaQRegLib
import Derived.Deep.DeepCutAuto
namespace Go.Proofs.Ytmbclopkopfngaa
open Go.RowKit

set_option linter.unusedVariables false
set_option linter.unusedSimpArgs false
set_option maxRecDepth 100000

set_option maxHeartbeats 16000000 in
theorem l21Poly_any (rb base P : Nat) (w : World) (h : Rdr rb base P w) (hP : P ≤ 1099511500000) (n : Int) (hn0 : 0 ≤ n) (hn : n ≤ 200) :
    Calls Try.prog 26 #[.pointer (some ⟨rb, 0, none⟩), .int .i64 n] w fun e w' => (∃ (p : TrmPoly) (A : Option Addr) (c : Nat), e = .returned (.agg #[.slice A p.monos.length c]) ∧ GlO w.heap.size w' (.slice A p.monos.length c) p.monos ∧ polOkB p = true ∧ polUnderB p n = true) ∧ Rdr rb base (P + 130) w' ∧ Turn [rb] w w' := by
  have hlt := h.lt
  have hlt1 := hlt.1
  have hlt2 := hlt.2
  clear hlt
  go_enter Try.func26, Try.ntmps26
  go_upto_region 1 with fail
  have he0 : Ext w (w.alloc (Obj.cells #[.slice none 0 0] 28)) := (Ext.auto)
  have hs0 : w.heap.size + 1 ≤ ((w.alloc (Obj.cells #[.slice none 0 0] 28))).heap.size := by simp
  have hq0 := hide (show ((w.alloc (Obj.cells #[.slice none 0 0] 28))).heap.size = w.heap.size + 1 by simp)
  have hBres_0 : Bx (w.alloc (Obj.cells #[.slice none 0 0] 28)) (w.heap.size) [.slice none 0 0] := (by have := (Bx.new w #[.slice none 0 0] 28); simpa using this)
  have hFres_0 : ∀ oo, ((w.alloc (Obj.cells #[.slice none 0 0] 28))).frozen? ⟨w.heap.size, oo, none⟩ = false := fun oo => by simp
  generalize (w.alloc (Obj.cells #[.slice none 0 0] 28)) = w0 at *
  have hR0 : Rdr rb base P w0 := h.ext he0
  have hT0 : Turn [rb] w w0 := Turn.of_ext he0 _
  go_wp2_with fail
  refine (l20Word_any rb base _ _ (Rdr.hold hR0) (by omega)).mono ?_
  rintro e w1 ⟨⟨v, rfl, lv, uv⟩, hR1, hy⟩
  have hs1 := hy.size
  try simp at hs1
  have hT1 : Turn [rb] w w1 := (Turn.hold hT0).trans hy
  have hBres_1 : Bx w1 (w.heap.size) [.slice none 0 0] := hy.bx (Bx.hold hBres_0) (by first | omega | (simp; done) | (simp; omega)) (by simp; omega)
  have hFres_1 : ∀ oo, w1.frozen? ⟨w.heap.size, oo, none⟩ = false := fun oo => (hy.frozen (by first | omega | (simp; done) | (simp; omega)) (by simp; omega)).trans ((fz_hold hFres_0) oo)
  clear hBres_0 hFres_0
  clear hy
  go_wp2_with fail
  refine (pick_any rb base _ _ (Rdr.hold hR1) (by omega) 3 (by omega) (by omega)).mono ?_
  rintro e w2 ⟨⟨iq, rfl, liq, qiq⟩, hR2, hy⟩
  have uiq : iq < 3 := by omega
  clear qiq
  have hBt := hy.bx (Bx.new w1 #[.int .i64 0, .int .i64 1, .int .i64 v] 3) (by simp) (by simp; omega)
  have yt : w1.heap.size < w2.heap.size := by have := hy.size; simp at this; omega
  have hs2 := hy.size
  try simp at hs2
  have hT2 : Turn [rb] w w2 := (Turn.hold hT1).trans hy
  have hBres_2 : Bx w2 (w.heap.size) [.slice none 0 0] := hy.bx (Bx.hold hBres_1) (by first | omega | (simp; done) | (simp; omega)) (by simp; omega)
  have hFres_2 : ∀ oo, w2.frozen? ⟨w.heap.size, oo, none⟩ = false := fun oo => (hy.frozen (by first | omega | (simp; done) | (simp; omega)) (by simp; omega)).trans ((fz_hold hFres_1) oo)
  clear hBres_1 hFres_1
  obtain ⟨Vq, rfl⟩ := Int.eq_ofNat_of_zero_le liq
  have hVq : Vq < 3 := by omega
  have hBt : Bx w2 w1.heap.size (List.map (Value.int .i64) [0, 1, v]) := hBt
  have eq := hBt.at_ (v := Vq) hVq
  have hb : ∀ zz ∈ ([0, 1, v] : List Int), 0 ≤ zz ∧ zz < 65536 := by intro zz hzz; simp at hzz; omega
  have hb2 := hb _ (List.getElem_mem (l := [0, 1, v]) (n := Vq) hVq)
  clear hb hBt
  generalize ([0, 1, v] : List Int)[Vq] = q at *
  have lq := hb2.1
  have uq := hb2.2
  clear hb2
  have z0 : (0 : Int) ≤ (Vq : Int) := by omega
  have z1 : (Vq : Int) < 3 := by omega
  clear hy
  go_wp2_with fail
  refine (specPolConst_any q _ lq (by omega)).mono ?_
  rintro e w3 ⟨r, F, rfl, hO, hF, hy⟩
  have hs3 := hy.size
  try simp at hs3
  have hR3 := (Rdr.hold hR2).ext hy
  have hT3 : Turn [rb] w w3 := (Turn.hold hT2).call hy
  have hBres_3 : Bx w3 (w.heap.size) [.slice none 0 0] := hy.bx (Bx.hold hBres_2) (by first | omega | (simp; done) | (simp; omega))
  have hFres_3 : ∀ oo, w3.frozen? ⟨w.heap.size, oo, none⟩ = false := fun oo => (hy.frozen (by first | omega | (simp; done) | (simp; omega))).trans ((fz_hold hFres_2) oo)
  clear hBres_2 hFres_2
  clear hy
  have hg := (GlB.of_own hO hF).down (show w0.heap.size ≤ _ from (by first | omega | (simp; done) | (simp; omega)))
  clear hO hF
  have HP := hide (polC_ok lq (show q ≤ 65535 by omega) n)
  generalize polC q = p at *
  obtain ⟨A1, c1, rfl, -, -⟩ := hg.sl.form
  go_upto_region 2 with fail
  have hR4 := Rdr.hold (w' := (w3.alloc (.cells #[.slice A1 p.monos.length c1] 28))) hR3
  have hT4 : Turn [rb] w (w3.alloc (.cells #[.slice A1 p.monos.length c1] 28)) := Turn.hold hT3
  have hs4 : w3.heap.size + 1 ≤ ((w3.alloc (.cells #[.slice A1 p.monos.length c1] 28))).heap.size := by simp
  have hx4 : Ext w3 (w3.alloc (.cells #[.slice A1 p.monos.length c1] 28)) := Ext.auto
  have hBp_4 : Bx (w3.alloc (.cells #[.slice A1 p.monos.length c1] 28)) (w3.heap.size) [.slice A1 p.monos.length c1] := (show Bx (w3.alloc (.cells #[.slice A1 p.monos.length c1] 28)) w3.heap.size [.slice A1 p.monos.length c1] from Bx.new w3 #[.slice A1 p.monos.length c1] 28)
  have hFp_4 : ∀ oo, (w3.alloc (.cells #[.slice A1 p.monos.length c1] 28)).frozen? ⟨w3.heap.size, oo, none⟩ = false := (show ∀ oo, (w3.alloc (.cells #[.slice A1 p.monos.length c1] 28)).frozen? ⟨w3.heap.size, oo, none⟩ = false from fz_new w3 #[.slice A1 p.monos.length c1] 28 rfl)
  have hBres_4 : Bx (w3.alloc (.cells #[.slice A1 p.monos.length c1] 28)) (w.heap.size) [.slice none 0 0] := Bx.hold hBres_3
  have hFres_4 : ∀ oo, (w3.alloc (.cells #[.slice A1 p.monos.length c1] 28)).frozen? ⟨w.heap.size, oo, none⟩ = false := fz_hold hFres_3
  clear hBres_3 hFres_3
  replace hg := GlB.ext hg hx4
  generalize (w3.alloc (.cells #[.slice A1 p.monos.length c1] 28)) = w4 at *
  go_wp2_with fail
  refine (pick_any rb base _ _ (Rdr.hold hR4) (by omega) 6 (by omega) (by omega)).mono ?_
  rintro e w5 ⟨⟨im, rfl, lim, qim⟩, hR5, hy⟩
  have uim : im < 6 := by omega
  clear qim
  have hBt := hy.bx (Bx.new w4 #[.int .i64 0, .int .i64 1, .int .i64 2, .int .i64 3, .int .i64 6, .int .i64 12] 3) (by simp) (by simp; omega)
  have yt : w4.heap.size < w5.heap.size := by have := hy.size; simp at this; omega
  have hs5 := hy.size
  try simp at hs5
  have hT5 : Turn [rb] w w5 := (Turn.hold hT4).trans hy
  have hBres_5 : Bx w5 (w.heap.size) [.slice none 0 0] := hy.bx (Bx.hold hBres_4) (by first | omega | (simp; done) | (simp; omega)) (by simp; omega)
  have hFres_5 : ∀ oo, w5.frozen? ⟨w.heap.size, oo, none⟩ = false := fun oo => (hy.frozen (by first | omega | (simp; done) | (simp; omega)) (by simp; omega)).trans ((fz_hold hFres_4) oo)
  have hBp_5 : Bx w5 (w3.heap.size) [.slice A1 p.monos.length c1] := hy.bx (Bx.hold hBp_4) (by first | omega | (simp; done) | (simp; omega)) (by simp; omega)
  have hFp_5 : ∀ oo, w5.frozen? ⟨w3.heap.size, oo, none⟩ = false := fun oo => (hy.frozen (by first | omega | (simp; done) | (simp; omega)) (by simp; omega)).trans ((fz_hold hFp_4) oo)
  clear hBres_4 hFres_4 hBp_4 hFp_4
  obtain ⟨Vm, rfl⟩ := Int.eq_ofNat_of_zero_le lim
  have hVm : Vm < 6 := by omega
  have hBt : Bx w5 w4.heap.size (List.map (Value.int .i64) [0, 1, 2, 3, 6, 12]) := hBt
  have em := hBt.at_ (v := Vm) hVm
  have hb : ∀ zz ∈ ([0, 1, 2, 3, 6, 12] : List Int), 0 ≤ zz ∧ zz < 13 := by intro zz hzz; simp at hzz; omega
  have hb2 := hb _ (List.getElem_mem (l := [0, 1, 2, 3, 6, 12]) (n := Vm) hVm)
  clear hb hBt
  generalize ([0, 1, 2, 3, 6, 12] : List Int)[Vm] = m at *
  have lm := hb2.1
  have um := hb2.2
  clear hb2
  have z0 : (0 : Int) ≤ (Vm : Int) := by omega
  have z1 : (Vm : Int) < 6 := by omega
  replace hg := GlB.turn (GlB.ext hg Ext.auto) hy (fun x hx => by simp at hx; omega)
  clear hy
  obtain ⟨K, rfl⟩ := Int.eq_ofNat_of_zero_le lm
  have hK12 : K ≤ 12 := by omega
  clear lm um
  go_wp2
  go_loopw [6] (fun i wz => ∃ (k : Nat) (p : TrmPoly) (A1 : Option Addr) (c1 : Nat), k ≤ 12 ∧ i = .int .i64 k ∧ Rdr rb base (P + (5 + 7 * (12 - k))) wz ∧ Turn [rb] w wz ∧ w5.heap.size ≤ wz.heap.size ∧ Bx wz (w.heap.size) [.slice none 0 0] ∧ (∀ oo, wz.frozen? ⟨w.heap.size, oo, none⟩ = false) ∧ Bx wz (w3.heap.size) [.slice A1 p.monos.length c1] ∧ (∀ oo, wz.frozen? ⟨w3.heap.size, oo, none⟩ = false) ∧ GlB w0.heap.size wz.heap.size wz (.slice A1 p.monos.length c1) p.monos ∧ Hid (polOkB p = true ∧ polUnderB p n = true)) (fun i _ => (intOf i).toNat)
  case atStart => exact ⟨K, p, A1, c1, hK12, rfl, (Rdr.hold hR5).up (by omega), Turn.hold hT5, Nat.le_refl _, hBres_5, hFres_5, hBp_5, hFp_5, hg.to (Nat.le_refl _), HP⟩
  case round =>
    clear hg HP hR5 hT5 hK12 hBres_5 hFres_5 hBp_5 hFp_5
    obtain ⟨w6, hwr⟩ : ∃ w6 : World, w6 = wr := ⟨_, rfl⟩
    subst hwr
    obtain ⟨k, p, A1, c1, hk, rfl, hR6, hT6, hs6, hBres_6, hFres_6, hBp_6, hFp_6, hg, HP⟩ := hrel
    obtain ⟨Q, hQ⟩ : ∃ Q, Q = P + (5 + 7 * (12 - k)) := ⟨_, rfl⟩
    rw [← hQ] at hR6
    by_cases hk0 : 0 < k
    · 
      have qk : decide (0 < k) = true := decide_eq_true hk0
      have qk2 : decide ((0 : Int) < (k : Int)) = true := decide_eq_true (by omega)
      go_wp2_with fail
      refine (l20Word_any rb base _ _ (Rdr.hold hR6) (by omega)).mono ?_
      rintro e w7 ⟨⟨v, rfl, lv, uv⟩, hR7, hy⟩
      have hs7 := hy.size
      try simp at hs7
      have hT7 : Turn [rb] w w7 := (Turn.hold hT6).trans hy
      have hBres_7 : Bx w7 (w.heap.size) [.slice none 0 0] := hy.bx (Bx.hold hBres_6) (by first | omega | (simp; done) | (simp; omega)) (by simp; omega)
      have hFres_7 : ∀ oo, w7.frozen? ⟨w.heap.size, oo, none⟩ = false := fun oo => (hy.frozen (by first | omega | (simp; done) | (simp; omega)) (by simp; omega)).trans ((fz_hold hFres_6) oo)
      have hBp_7 : Bx w7 (w3.heap.size) [.slice A1 p.monos.length c1] := hy.bx (Bx.hold hBp_6) (by first | omega | (simp; done) | (simp; omega)) (by simp; omega)
      have hFp_7 : ∀ oo, w7.frozen? ⟨w3.heap.size, oo, none⟩ = false := fun oo => (hy.frozen (by first | omega | (simp; done) | (simp; omega)) (by simp; omega)).trans ((fz_hold hFp_6) oo)
      clear hBres_6 hFres_6 hBp_6 hFp_6
      replace hg := GlB.turn (GlB.ext hg Ext.auto) hy (fun x hx => by simp at hx; omega)
      clear hy
      have zf : IntKind.i64.wrap (1 + v % 65535) = 1 + v % 65535 := by rw [IntKind.wrap_i64]; omega
      have cf0 : 1 ≤ 1 + v % 65535 := by omega
      have cf1 : 1 + v % 65535 ≤ 65535 := by omega
      go_upto_region 6 with fail
      generalize 1 + v % 65535 = cf at *
      clear zf lv uv
      have hgm : GlB w0.heap.size ((w7.alloc (.cells #[.int .i64 cf, .slice none 0 0] 79)).alloc (.cells #[.slice (some ⟨w7.heap.size, 0, none⟩) 1 1] 28)).heap.size ((w7.alloc (.cells #[.int .i64 cf, .slice none 0 0] 79)).alloc (.cells #[.slice (some ⟨w7.heap.size, 0, none⟩) 1 1] 28)) (.slice (some ⟨w7.heap.size, 0, none⟩) 1 1) [(⟨cf, []⟩ : TrmMono)] := by
        have h1 : OwnSl ((w7.alloc (.cells #[.int .i64 cf, .slice none 0 0] 79)).alloc (.cells #[.slice (some ⟨w7.heap.size, 0, none⟩) 1 1] 28)) (.slice (some ⟨w7.heap.size, 0, none⟩) 1 1) [(⟨cf, []⟩ : TrmMono)] [w7.heap.size] := OwnSl.one (vs := [.int .i64 cf, .slice none 0 0]) ⟨_, rfl, by show Fits cf; unfold Fits; omega, OwnSl.nil _⟩ (fun j u hu => (show Bx ((w7.alloc (.cells #[.int .i64 cf, .slice none 0 0] 79)).alloc (.cells #[.slice (some ⟨w7.heap.size, 0, none⟩) 1 1] 28)) (w7.heap.size) [.int .i64 cf, .slice none 0 0] from Bx.hold (Bx.new w7 #[.int .i64 cf, .slice none 0 0] 79)) j u hu) (fun oo => (show ∀ oo, ((w7.alloc (.cells #[.int .i64 cf, .slice none 0 0] 79)).alloc (.cells #[.slice (some ⟨w7.heap.size, 0, none⟩) 1 1] 28)).frozen? ⟨w7.heap.size, oo, none⟩ = false from fz_hold (fz_new w7 #[.int .i64 cf, .slice none 0 0] 79 rfl)) oo)
        exact ⟨h1.sl.keep (fun _ _ _ => rfl) (fun b hb => by simp at hb; subst hb; exact ⟨by omega, by simp; omega⟩), Nat.le_refl _⟩
      have HM := hide (mono_ok cf0 cf1 n)
      have hR8 := Rdr.hold (w' := ((w7.alloc (.cells #[.int .i64 cf, .slice none 0 0] 79)).alloc (.cells #[.slice (some ⟨w7.heap.size, 0, none⟩) 1 1] 28))) hR7
      have hT8 : Turn [rb] w ((w7.alloc (.cells #[.int .i64 cf, .slice none 0 0] 79)).alloc (.cells #[.slice (some ⟨w7.heap.size, 0, none⟩) 1 1] 28)) := Turn.hold hT7
      have hs8 : w7.heap.size + 2 ≤ (((w7.alloc (.cells #[.int .i64 cf, .slice none 0 0] 79)).alloc (.cells #[.slice (some ⟨w7.heap.size, 0, none⟩) 1 1] 28))).heap.size := by simp
      have hx8 : Ext w7 ((w7.alloc (.cells #[.int .i64 cf, .slice none 0 0] 79)).alloc (.cells #[.slice (some ⟨w7.heap.size, 0, none⟩) 1 1] 28)) := Ext.auto
      have hBm_8 : Bx ((w7.alloc (.cells #[.int .i64 cf, .slice none 0 0] 79)).alloc (.cells #[.slice (some ⟨w7.heap.size, 0, none⟩) 1 1] 28)) (w7.heap.size + 1) [.slice (some ⟨w7.heap.size, 0, none⟩) 1 1] := (show Bx ((w7.alloc (.cells #[.int .i64 cf, .slice none 0 0] 79)).alloc (.cells #[.slice (some ⟨w7.heap.size, 0, none⟩) 1 1] 28)) (w7.heap.size + 1) [.slice (some ⟨w7.heap.size, 0, none⟩) 1 1] by have := Bx.new (w7.alloc (.cells #[.int .i64 cf, .slice none 0 0] 79)) #[.slice (some ⟨w7.heap.size, 0, none⟩) 1 1] 28; simpa using this)
      have hFm_8 : ∀ oo, ((w7.alloc (.cells #[.int .i64 cf, .slice none 0 0] 79)).alloc (.cells #[.slice (some ⟨w7.heap.size, 0, none⟩) 1 1] 28)).frozen? ⟨w7.heap.size + 1, oo, none⟩ = false := (show ∀ oo, ((w7.alloc (.cells #[.int .i64 cf, .slice none 0 0] 79)).alloc (.cells #[.slice (some ⟨w7.heap.size, 0, none⟩) 1 1] 28)).frozen? ⟨w7.heap.size + 1, oo, none⟩ = false by intro oo; simp)
      have hBres_8 : Bx ((w7.alloc (.cells #[.int .i64 cf, .slice none 0 0] 79)).alloc (.cells #[.slice (some ⟨w7.heap.size, 0, none⟩) 1 1] 28)) (w.heap.size) [.slice none 0 0] := Bx.hold hBres_7
      have hFres_8 : ∀ oo, ((w7.alloc (.cells #[.int .i64 cf, .slice none 0 0] 79)).alloc (.cells #[.slice (some ⟨w7.heap.size, 0, none⟩) 1 1] 28)).frozen? ⟨w.heap.size, oo, none⟩ = false := fz_hold hFres_7
      have hBp_8 : Bx ((w7.alloc (.cells #[.int .i64 cf, .slice none 0 0] 79)).alloc (.cells #[.slice (some ⟨w7.heap.size, 0, none⟩) 1 1] 28)) (w3.heap.size) [.slice A1 p.monos.length c1] := Bx.hold hBp_7
      have hFp_8 : ∀ oo, ((w7.alloc (.cells #[.int .i64 cf, .slice none 0 0] 79)).alloc (.cells #[.slice (some ⟨w7.heap.size, 0, none⟩) 1 1] 28)).frozen? ⟨w3.heap.size, oo, none⟩ = false := fz_hold hFp_7
      clear hBres_7 hFres_7 hBp_7 hFp_7
      replace hg := GlB.ext hg hx8
      generalize ((w7.alloc (.cells #[.int .i64 cf, .slice none 0 0] 79)).alloc (.cells #[.slice (some ⟨w7.heap.size, 0, none⟩) 1 1] 28)) = w8 at *
      obtain ⟨m, hm_⟩ : ∃ m : TrmPoly, m = ⟨[⟨cf, []⟩]⟩ := ⟨_, rfl⟩
      rw [← hm_] at HM
      rw [show [(⟨cf, []⟩ : TrmMono)] = m.monos by rw [hm_]] at hgm
      obtain ⟨A2, c2, hAe⟩ : ∃ (A2 : Option Addr) (c2 : Nat), (Value.slice (some ⟨w7.heap.size, 0, none⟩) 1 1) = Value.slice A2 m.monos.length c2 := ⟨_, _, by rw [hm_]; rfl⟩
      rw [hAe] at hgm
      rw [hAe] at hBm_8
      clear hAe hm_ cf0 cf1
      go_wp2_with fail
      refine (pick_any rb base _ _ (Rdr.hold hR8) (by omega) 3 (by omega) (by omega)).mono ?_
      rintro e w9 ⟨⟨j, rfl, lj, qj⟩, hR9, hy⟩
      have uj : j < 3 := by omega
      clear qj
      have hs9 := hy.size
      try simp at hs9
      have hT9 : Turn [rb] w w9 := (Turn.hold hT8).trans hy
      have hBres_9 : Bx w9 (w.heap.size) [.slice none 0 0] := hy.bx (Bx.hold hBres_8) (by first | omega | (simp; done) | (simp; omega)) (by simp; omega)
      have hFres_9 : ∀ oo, w9.frozen? ⟨w.heap.size, oo, none⟩ = false := fun oo => (hy.frozen (by first | omega | (simp; done) | (simp; omega)) (by simp; omega)).trans ((fz_hold hFres_8) oo)
      have hBp_9 : Bx w9 (w3.heap.size) [.slice A1 p.monos.length c1] := hy.bx (Bx.hold hBp_8) (by first | omega | (simp; done) | (simp; omega)) (by simp; omega)
      have hFp_9 : ∀ oo, w9.frozen? ⟨w3.heap.size, oo, none⟩ = false := fun oo => (hy.frozen (by first | omega | (simp; done) | (simp; omega)) (by simp; omega)).trans ((fz_hold hFp_8) oo)
      have hBm_9 : Bx w9 (w7.heap.size + 1) [.slice A2 m.monos.length c2] := hy.bx (Bx.hold hBm_8) (by first | omega | (simp; done) | (simp; omega)) (by simp; omega)
      have hFm_9 : ∀ oo, w9.frozen? ⟨w7.heap.size + 1, oo, none⟩ = false := fun oo => (hy.frozen (by first | omega | (simp; done) | (simp; omega)) (by simp; omega)).trans ((fz_hold hFm_8) oo)
      clear hBres_8 hFres_8 hBp_8 hFp_8 hBm_8 hFm_8
      replace hg := GlB.turn (GlB.ext hg Ext.auto) hy (fun x hx => by simp at hx; omega)
      replace hgm := GlB.turn (GlB.ext hgm Ext.auto) hy (fun x hx => by simp at hx; omega)
      clear hy
      obtain ⟨J, rfl⟩ := Int.eq_ofNat_of_zero_le lj
      have hJ2 : J ≤ 2 := by omega
      clear lj uj
      go_wp2
      go_loopw [8] (fun i wz => ∃ (j : Nat) (m : TrmPoly) (A2 : Option Addr) (c2 : Nat), j ≤ 2 ∧ i = .int .i64 j ∧ Rdr rb base (Q + (4 + (2 - j))) wz ∧ Turn [rb] w wz ∧ w9.heap.size ≤ wz.heap.size ∧ Bx wz (w.heap.size) [.slice none 0 0] ∧ (∀ oo, wz.frozen? ⟨w.heap.size, oo, none⟩ = false) ∧ Bx wz (w3.heap.size) [.slice A1 p.monos.length c1] ∧ (∀ oo, wz.frozen? ⟨w3.heap.size, oo, none⟩ = false) ∧ Bx wz (w7.heap.size + 1) [.slice A2 m.monos.length c2] ∧ (∀ oo, wz.frozen? ⟨w7.heap.size + 1, oo, none⟩ = false) ∧ GlB w0.heap.size wz.heap.size wz (.slice A2 m.monos.length c2) m.monos ∧ Hid (polOkB m = true ∧ polUnderB m n = true) ∧ GlB w0.heap.size w6.heap.size wz (.slice A1 p.monos.length c1) p.monos) (fun i _ => (intOf i).toNat)
      case atStart => exact ⟨J, m, A2, c2, hJ2, rfl, (Rdr.hold hR9).up (by omega), Turn.hold hT9, Nat.le_refl _, hBres_9, hFres_9, hBp_9, hFp_9, hBm_9, hFm_9, hgm.to (Nat.le_refl _), HM, hg⟩
      case round =>
        clear hgm HM hg hR9 hT9 hJ2 hBres_9 hFres_9 hBp_9 hFp_9 hBm_9 hFm_9
        obtain ⟨w10, hwr⟩ : ∃ w10 : World, w10 = wr := ⟨_, rfl⟩
        subst hwr
        obtain ⟨j, m, A2, c2, hj, rfl, hR10, hT10, hs10, hBres_10, hFres_10, hBp_10, hFp_10, hBm_10, hFm_10, hgm, HM, hg⟩ := hrel
        obtain ⟨Q2, hQ2⟩ : ∃ Q2, Q2 = Q + (4 + (2 - j)) := ⟨_, rfl⟩
        rw [← hQ2] at hR10
        by_cases hj0 : 0 < j ∧ 0 < n
        · 
          have qj : decide (0 < j) = true := decide_eq_true hj0.1
          have qj2 : decide ((0 : Int) < (j : Int)) = true := decide_eq_true (by omega)
          have qn : decide (0 < n) = true := decide_eq_true hj0.2
          go_upto_region 9 with fail
          go_cut [9, 10] (fun v9 v10 wx => ∃ (q9 : Nat) (ok : Bool) (p2 : TrmPoly) (A3 : Option Addr) (c3 : Nat), v9 = .pointer (some ⟨q9, 0, none⟩) ∧ v10 = .bool ok ∧ Rdr rb base (Q2 + 1) wx ∧ Turn [rb] w10 wx ∧ w10.heap.size ≤ q9 ∧ q9 < wx.heap.size ∧ Bx wx q9 [.slice A3 p2.monos.length c3] ∧ (∀ oo, wx.frozen? ⟨q9, oo, none⟩ = false) ∧ GlB w10.heap.size wx.heap.size wx (.slice A3 p2.monos.length c3) p2.monos ∧ Hid (ok = true → polOkB p2 = true ∧ polUnderB p2 n = true))
          · 
            have ym : w7.heap.size + 1 < w10.heap.size := by omega
            have xm0 : w10.cell? ⟨w7.heap.size + 1, 0, none⟩ = some (.slice A2 m.monos.length c2) := hBm_10 0 _ rfl
            have fm := hFm_10
            have hBm_k := hBm_10
            clear hBm_k
            have hSm : ∀ w', Turn [rb] w10 w' → ∀ oo, w'.cell? ⟨w7.heap.size + 1, oo, none⟩ = w10.cell? ⟨w7.heap.size + 1, oo, none⟩ := fun w' hx oo => hx.cell (by omega) (by simp; omega)
            refine wp_region_plan2 (fun w' => Turn [rb] w10 w') 11 (.float 0 (.float 1 (.float 2 (.alt 3 (.alt 4 (.alt 5 (.float 6 (.float 7 (.float 8 (.chain 9 (.chain 10 (.tail 11)))))) (.alt 9 (.chain 5 (.float 6 (.float 7 (.float 8 (.chain 10 (.tail 11)))))) (.stop))) (.alt 9 (.chain 4 (.chain 5 (.float 6 (.float 7 (.float 8 (.chain 10 (.tail 11))))))) (.stop))) (.alt 9 (.chain 3 (.chain 4 (.chain 5 (.float 6 (.float 7 (.float 8 (.chain 10 (.tail 11)))))))) (.stop)))))) (by kernel_rfl) (by kernel_rfl) (Turn.of_ext (Ext.refl _).drew _) ?_
            have hC : Turn [rb] w10 w10.drew := Turn.of_ext (Ext.refl _).drew _
            have hR := Rdr.hold (w' := w10.drew) hR10
            replace hgm := GlB.ext hgm (Ext.refl _).drew
            have hsz : w10.heap.size ≤ w10.drew.heap.size := Nat.le_refl _
            generalize w10.drew = wz at *
            repeat' (first
              | with_reducible refine Plan2.alt_step ?_ ?_
              | with_reducible exact Plan2.stop_pre
              | ((with_reducible refine Plan2.float_pre ?_); (refine Plan2.float_step (v := ?_) rfl (by rfl) (fun _ _ _ h => h) (fun w' hSw => ?_) ?_; rotate_left; · (go_simp; try with_reducible rfl)))
              | ((with_reducible refine Plan2.chain_pre ?_)
                 refine Plan2.chain_step rfl (fun K hK => ?_)
                 go_simp
                 first
                   | (refine (pick_any rb base _ _ (Rdr.hold hR) (by omega) n (by omega) (by omega)).mono ?_
                      rintro e wn ⟨⟨a, rfl, la, qa⟩, hR, hy⟩
                      have ua : a < n := by omega
                      clear qa)
                   | (refine (specPolAtom_any a _ la (by omega)).mono ?_
                      rintro e wn ⟨r, Fa, rfl, hO, hF, hx⟩
                      replace hR := hR.ext hx
                      have hy := Turn.of_ext hx [rb]
                      have hga := (GlB.of_own hO hF).down (show wz.heap.size ≤ _ from (by first | omega | (simp; done) | (simp; omega)))
                      clear hO hF
                      obtain ⟨A4, c4, rfl, -, -⟩ := hga.sl.form)
                   | (refine (specPolMul_any m (polK a) _ _ _ hgm.sl hga.sl).mono ?_
                      rintro e wn ⟨r, Fm, rfl, hO, hF, hx⟩
                      replace hR := hR.ext hx
                      have hy := Turn.of_ext hx [rb]
                      have hgq := (GlB.of_own hO hF).down (show wz.heap.size ≤ _ from (by first | omega | (simp; done) | (simp; omega)))
                      clear hO hF
                      obtain ⟨A3, c3, rfl, -, -⟩ := hgq.sl.form)
                   | (have hC : Turn [rb] w10 (wz.alloc (.cells #[.slice none 0 0] 28)) := Turn.hold hC
                      with_reducible refine hK.out _ _ hC ?_
                      have hy : Turn [rb] wz (wz.alloc (.cells #[.slice none 0 0] 28)) := Turn.hold (Turn.refl _ _)
                      have hR := Rdr.hold (w' := (wz.alloc (.cells #[.slice none 0 0] 28))) hR
                      have hz : wz.heap.size < (wz.alloc (.cells #[.slice none 0 0] 28)).heap.size := by simp
                      have hBq : Bx (wz.alloc (.cells #[.slice none 0 0] 28)) wz.heap.size [.slice none 0 0] := Bx.new wz #[.slice none 0 0] 28
                      have hFq : ∀ oo, (wz.alloc (.cells #[.slice none 0 0] 28)).frozen? ⟨wz.heap.size, oo, none⟩ = false := fz_new wz #[.slice none 0 0] 28 rfl
                      generalize (wz.alloc (.cells #[.slice none 0 0] 28)) = wn at *
                      obtain ⟨qq, hqq⟩ : ∃ q, wz.heap.size = q := ⟨_, rfl⟩
                      rw [hqq] at hBq hFq ⊢)
                   | (have hC : Turn [rb] w10 (wz.setCell ⟨qq, 0, none⟩ (.slice A3 (polMul m (polK a)).monos.length c3)) := Turn.hold hC
                      with_reducible refine hK.out _ _ hC ?_
                      have hy : Turn [qq] wz (wz.setCell ⟨qq, 0, none⟩ (.slice A3 (polMul m (polK a)).monos.length c3)) := Turn.hold (Turn.refl _ _)
                      have hR := Rdr.hold (w' := (wz.setCell ⟨qq, 0, none⟩ (.slice A3 (polMul m (polK a)).monos.length c3))) hR
                      have hBq : Bx (wz.setCell ⟨qq, 0, none⟩ (.slice A3 (polMul m (polK a)).monos.length c3)) qq [.slice A3 (polMul m (polK a)).monos.length c3] := by have := Bx.put hBq (j := 0) (by simp) (.slice A3 (polMul m (polK a)).monos.length c3); simpa using this
                      have hFq : ∀ oo, (wz.setCell ⟨qq, 0, none⟩ (.slice A3 (polMul m (polK a)).monos.length c3)).frozen? ⟨qq, oo, none⟩ = false := fz_hold hFq
                      generalize (wz.setCell ⟨qq, 0, none⟩ (.slice A3 (polMul m (polK a)).monos.length c3)) = wn at *)
                 have hsz := hy.size
                 try replace hgm := GlB.turn hgm hy (fun x hx => by simp at hx; omega)
                 try replace hga := GlB.turn hga hy (fun x hx => by simp at hx; omega)
                 try replace hgq := GlB.turn hgq hy (fun x hx => by simp at hx; omega)
                 try replace hBq := hy.bx hBq (by omega) (by simp; omega)
                 try replace hFq := fun oo => (hy.frozen (by omega) (by simp; omega)).trans (hFq oo)
                 try replace hC := hC.trans hy
                 try refine hK.out _ _ hC ?_
                 clear hK hy
                 obtain ⟨wz, hwz⟩ : ∃ wz : World, wz = wn := ⟨_, rfl⟩
                 subst hwz
                 try clear xq yq fq
                 try (have xq := hBq 0 _ rfl; have yq : qq < wz.heap.size := (by omega); have fq := hFq)
                 (try simp only [Act.put, List.setIfInBounds_toArray, List.set_cons_zero, List.set_cons_succ])))
            all_goals
              refine Plan2.tail_step ?_
              simp only [List.drop_succ_cons, List.drop_zero]
              clear hSm
              go_wp2_with fail
              go_meet
              exact ⟨_, _, polMul m (polK a), A3, c3, rfl, rfl, (Rdr.hold hR).up (by omega), Turn.hold hC, by omega, by omega, hBq, hFq, hgq.to (by omega), hide (fun h => polMul_ok hn h HM.out.2 (polK_ok la ua hn).2)⟩
          obtain ⟨w11, hwc⟩ : ∃ w11 : World, w11 = wc := ⟨_, rfl⟩
          subst hwc
          obtain ⟨q9, ok, p2, A3, c3, rfl, rfl, hR11, hyT, hq9, hq8, hBq_11, hFq_11, hg2, HOK⟩ := hcut
          have hs11 := hyT.size
          have hT11 : Turn [rb] w w11 := hT10.trans hyT
          have hBres_11 : Bx w11 (w.heap.size) [.slice none 0 0] := hyT.bx (Bx.hold hBres_10) (by first | omega | (simp; done) | (simp; omega)) (by simp; omega)
          have hFres_11 : ∀ oo, w11.frozen? ⟨w.heap.size, oo, none⟩ = false := fun oo => (hyT.frozen (by first | omega | (simp; done) | (simp; omega)) (by simp; omega)).trans ((fz_hold hFres_10) oo)
          have hBp_11 : Bx w11 (w3.heap.size) [.slice A1 p.monos.length c1] := hyT.bx (Bx.hold hBp_10) (by first | omega | (simp; done) | (simp; omega)) (by simp; omega)
          have hFp_11 : ∀ oo, w11.frozen? ⟨w3.heap.size, oo, none⟩ = false := fun oo => (hyT.frozen (by first | omega | (simp; done) | (simp; omega)) (by simp; omega)).trans ((fz_hold hFp_10) oo)
          have hBm_11 : Bx w11 (w7.heap.size + 1) [.slice A2 m.monos.length c2] := hyT.bx (Bx.hold hBm_10) (by first | omega | (simp; done) | (simp; omega)) (by simp; omega)
          have hFm_11 : ∀ oo, w11.frozen? ⟨w7.heap.size + 1, oo, none⟩ = false := fun oo => (hyT.frozen (by first | omega | (simp; done) | (simp; omega)) (by simp; omega)).trans ((fz_hold hFm_10) oo)
          clear hBres_10 hFres_10 hBp_10 hFp_10 hBm_10 hFm_10
          replace hg := GlB.turn hg hyT (fun x hx => by simp at hx; omega)
          replace hgm := GlB.turn hgm hyT (fun x hx => by simp at hx; omega)
          clear hyT
          cases ok
          · 
            go_wp2_with fail
            go_roundw
            case rel => exact ⟨j - 1, m, A2, c2, by omega, by go_num, (Rdr.hold hR11).up (by omega), Turn.hold hT11, by first | omega | (simp; done) | (simp; omega), hBres_11, hFres_11, hBp_11, hFp_11, hBm_11, hFm_11, hgm.to (by omega), HM, hg⟩
            case measure => simp [intOf]; omega
          · 
            have yq : q9 < w11.heap.size := by omega
            have xq0 : w11.cell? ⟨q9, 0, none⟩ = some (.slice A3 p2.monos.length c3) := hBq_11 0 _ rfl
            have fq := hFq_11
            have ym : w7.heap.size + 1 < w11.heap.size := by omega
            have xm0 : w11.cell? ⟨w7.heap.size + 1, 0, none⟩ = some (.slice A2 m.monos.length c2) := hBm_11 0 _ rfl
            have fm := hFm_11
            go_upto_region 8 with fail
            clear xq0 yq
            clear fq
            clear xm0 ym
            clear fm
            have hR12 := Rdr.hold (w' := (w11.setCell ⟨w7.heap.size + 1, 0, none⟩ (.slice A3 p2.monos.length c3))) hR11
            have hT12 : Turn [rb] w (w11.setCell ⟨w7.heap.size + 1, 0, none⟩ (.slice A3 p2.monos.length c3)) := Turn.hold hT11
            have hs12 : w11.heap.size ≤ ((w11.setCell ⟨w7.heap.size + 1, 0, none⟩ (.slice A3 p2.monos.length c3))).heap.size := by simp
            have hBm_12 : Bx (w11.setCell ⟨w7.heap.size + 1, 0, none⟩ (.slice A3 p2.monos.length c3)) (w7.heap.size + 1) [.slice A3 p2.monos.length c3] := by have := Bx.put hBm_11 (j := 0) (by simp) (.slice A3 p2.monos.length c3); simpa using this
            have hFm_12 : ∀ oo, (w11.setCell ⟨w7.heap.size + 1, 0, none⟩ (.slice A3 p2.monos.length c3)).frozen? ⟨w7.heap.size + 1, oo, none⟩ = false := fz_hold hFm_11
            have hBres_12 : Bx (w11.setCell ⟨w7.heap.size + 1, 0, none⟩ (.slice A3 p2.monos.length c3)) (w.heap.size) [.slice none 0 0] := Bx.hold hBres_11
            have hFres_12 : ∀ oo, (w11.setCell ⟨w7.heap.size + 1, 0, none⟩ (.slice A3 p2.monos.length c3)).frozen? ⟨w.heap.size, oo, none⟩ = false := fz_hold hFres_11
            have hBp_12 : Bx (w11.setCell ⟨w7.heap.size + 1, 0, none⟩ (.slice A3 p2.monos.length c3)) (w3.heap.size) [.slice A1 p.monos.length c1] := Bx.hold hBp_11
            have hFp_12 : ∀ oo, (w11.setCell ⟨w7.heap.size + 1, 0, none⟩ (.slice A3 p2.monos.length c3)).frozen? ⟨w3.heap.size, oo, none⟩ = false := fz_hold hFp_11
            have hBq_12 : Bx (w11.setCell ⟨w7.heap.size + 1, 0, none⟩ (.slice A3 p2.monos.length c3)) (q9) [.slice A3 p2.monos.length c3] := Bx.hold hBq_11
            have hFq_12 : ∀ oo, (w11.setCell ⟨w7.heap.size + 1, 0, none⟩ (.slice A3 p2.monos.length c3)).frozen? ⟨q9, oo, none⟩ = false := fz_hold hFq_11
            clear hBres_11 hFres_11 hBp_11 hFp_11 hBm_11 hFm_11 hBq_11 hFq_11
            have hg_ := GlB.turn (w' := (w11.setCell ⟨w7.heap.size + 1, 0, none⟩ (.slice A3 p2.monos.length c3))) (F := [w7.heap.size + 1]) hg (Turn.hold (Turn.refl _ _)) (fun x hx => by simp at hx; omega)
            clear hg
            have hg := hg_
            clear hg_
            have hg2_ := GlB.turn (w' := (w11.setCell ⟨w7.heap.size + 1, 0, none⟩ (.slice A3 p2.monos.length c3))) (F := [w7.heap.size + 1]) hg2 (Turn.hold (Turn.refl _ _)) (fun x hx => by simp at hx; omega)
            clear hg2
            have hg2 := hg2_
            clear hg2_
            generalize (w11.setCell ⟨w7.heap.size + 1, 0, none⟩ (.slice A3 p2.monos.length c3)) = w12 at *
            go_wp2_with fail
            go_roundw
            case rel => exact ⟨j - 1, p2, A3, c3, by omega, by go_num, (Rdr.hold hR12).up (by omega), Turn.hold hT12, by first | omega | (simp; done) | (simp; omega), hBres_12, hFres_12, hBp_12, hFp_12, hBm_12, hFm_12, hg2.to (by omega), (hide (HOK.out rfl)), hg⟩
            case measure => simp [intOf]; omega
        · 
          have hqq : (decide ((0 : Int) < (j : Int)) && decide (0 < n)) = false := by
            rw [Bool.and_eq_false_iff]
            by_cases h : 0 < j
            · exact .inr (decide_eq_false (fun h2 => hj0 ⟨h, h2⟩))
            · exact .inl (decide_eq_false (by omega))
          have hQ2' : Q2 ≤ Q + 6 := by omega
          clear hj0
          go_upto_region 7 with fail
          go_cut [44] (fun v wx => v = .bool false ∧ w10 = wx)
          · by_cases h : 0 < j
            · have qa : decide (0 < j) = true := decide_eq_true h
              have qb : decide ((0 : Int) < (j : Int)) = true := decide_eq_true (by omega)
              rw [qb, Bool.true_and] at hqq
              go_wp2_with fail
              go_meet
              exact ⟨rfl, rfl⟩
            · have qa : decide (0 < j) = false := decide_eq_false h
              have qb : decide ((0 : Int) < (j : Int)) = false := decide_eq_false (by omega)
              go_wp2_with fail
              go_meet
              exact ⟨rfl, rfl⟩
          obtain ⟨rfl, hwc⟩ := hcut
          subst hwc
          clear hqq
          have yp : w3.heap.size < w10.heap.size := by omega
          have xp0 : w10.cell? ⟨w3.heap.size, 0, none⟩ = some (.slice A1 p.monos.length c1) := hBp_10 0 _ rfl
          have fp := hFp_10
          have ym : w7.heap.size + 1 < w10.heap.size := by omega
          have xm0 : w10.cell? ⟨w7.heap.size + 1, 0, none⟩ = some (.slice A2 m.monos.length c2) := hBm_10 0 _ rfl
          have fm := hFm_10
          go_wp2_with fail
          refine (specPolAdd_any p m _ _ _ (GlB.sl (GlB.ext hg Ext.auto)) (GlB.sl (GlB.ext hgm Ext.auto))).mono ?_
          rintro e w11 ⟨r, F, rfl, hO, hF, hy⟩
          clear xp0 yp
          clear fp
          clear xm0 ym
          clear fm
          have hs11 := hy.size
          try simp at hs11
          have hR11 := (Rdr.hold hR10).ext hy
          have hT11 : Turn [rb] w w11 := (Turn.hold hT10).call hy
          have hBres_11 : Bx w11 (w.heap.size) [.slice none 0 0] := hy.bx (Bx.hold hBres_10) (by first | omega | (simp; done) | (simp; omega))
          have hFres_11 : ∀ oo, w11.frozen? ⟨w.heap.size, oo, none⟩ = false := fun oo => (hy.frozen (by first | omega | (simp; done) | (simp; omega))).trans ((fz_hold hFres_10) oo)
          have hBp_11 : Bx w11 (w3.heap.size) [.slice A1 p.monos.length c1] := hy.bx (Bx.hold hBp_10) (by first | omega | (simp; done) | (simp; omega))
          have hFp_11 : ∀ oo, w11.frozen? ⟨w3.heap.size, oo, none⟩ = false := fun oo => (hy.frozen (by first | omega | (simp; done) | (simp; omega))).trans ((fz_hold hFp_10) oo)
          have hBm_11 : Bx w11 (w7.heap.size + 1) [.slice A2 m.monos.length c2] := hy.bx (Bx.hold hBm_10) (by first | omega | (simp; done) | (simp; omega))
          have hFm_11 : ∀ oo, w11.frozen? ⟨w7.heap.size + 1, oo, none⟩ = false := fun oo => (hy.frozen (by first | omega | (simp; done) | (simp; omega))).trans ((fz_hold hFm_10) oo)
          clear hBres_10 hFres_10 hBp_10 hFp_10 hBm_10 hFm_10
          replace hg := GlB.ext hg (Ext.trans Ext.auto hy)
          replace hgm := GlB.ext hgm (Ext.trans Ext.auto hy)
          clear hy
          have hg2 := (GlB.of_own hO hF).down (show w10.heap.size ≤ _ from (by first | omega | (simp; done) | (simp; omega)))
          clear hO hF
          obtain ⟨A3, c3, rfl, -, -⟩ := hg2.sl.form
          have HOK := hide (fun h : polAddOk p m = true => polAdd_ok hn h HP.out.2 HM.out.2)
          generalize polAdd p m = p2 at *
          generalize polAddOk p m = ok at *
          go_upto_region 13 with fail
          have hR12 := Rdr.hold (w' := (w11.alloc (.cells #[.slice A3 p2.monos.length c3] 28))) hR11
          have hT12 : Turn [rb] w (w11.alloc (.cells #[.slice A3 p2.monos.length c3] 28)) := Turn.hold hT11
          have hs12 : w11.heap.size + 1 ≤ ((w11.alloc (.cells #[.slice A3 p2.monos.length c3] 28))).heap.size := by simp
          have hx12 : Ext w11 (w11.alloc (.cells #[.slice A3 p2.monos.length c3] 28)) := Ext.auto
          have hBs_12 : Bx (w11.alloc (.cells #[.slice A3 p2.monos.length c3] 28)) (w11.heap.size) [.slice A3 p2.monos.length c3] := (show Bx (w11.alloc (.cells #[.slice A3 p2.monos.length c3] 28)) w11.heap.size [.slice A3 p2.monos.length c3] from Bx.new w11 #[.slice A3 p2.monos.length c3] 28)
          have hFs_12 : ∀ oo, (w11.alloc (.cells #[.slice A3 p2.monos.length c3] 28)).frozen? ⟨w11.heap.size, oo, none⟩ = false := (show ∀ oo, (w11.alloc (.cells #[.slice A3 p2.monos.length c3] 28)).frozen? ⟨w11.heap.size, oo, none⟩ = false from fz_new w11 #[.slice A3 p2.monos.length c3] 28 rfl)
          have hBres_12 : Bx (w11.alloc (.cells #[.slice A3 p2.monos.length c3] 28)) (w.heap.size) [.slice none 0 0] := Bx.hold hBres_11
          have hFres_12 : ∀ oo, (w11.alloc (.cells #[.slice A3 p2.monos.length c3] 28)).frozen? ⟨w.heap.size, oo, none⟩ = false := fz_hold hFres_11
          have hBp_12 : Bx (w11.alloc (.cells #[.slice A3 p2.monos.length c3] 28)) (w3.heap.size) [.slice A1 p.monos.length c1] := Bx.hold hBp_11
          have hFp_12 : ∀ oo, (w11.alloc (.cells #[.slice A3 p2.monos.length c3] 28)).frozen? ⟨w3.heap.size, oo, none⟩ = false := fz_hold hFp_11
          have hBm_12 : Bx (w11.alloc (.cells #[.slice A3 p2.monos.length c3] 28)) (w7.heap.size + 1) [.slice A2 m.monos.length c2] := Bx.hold hBm_11
          have hFm_12 : ∀ oo, (w11.alloc (.cells #[.slice A3 p2.monos.length c3] 28)).frozen? ⟨w7.heap.size + 1, oo, none⟩ = false := fz_hold hFm_11
          clear hBres_11 hFres_11 hBp_11 hFp_11 hBm_11 hFm_11
          replace hg := GlB.ext hg hx12
          replace hgm := GlB.ext hgm hx12
          replace hg2 := GlB.ext hg2 hx12
          generalize (w11.alloc (.cells #[.slice A3 p2.monos.length c3] 28)) = w12 at *
          cases ok
          · 
            go_wp2_with fail
            go_roundw
            case rel => exact ⟨k - 1, p, A1, c1, by omega, by go_num, (Rdr.hold hR12).up (by omega), Turn.hold hT12, by first | omega | (simp; done) | (simp; omega), hBres_12, hFres_12, hBp_12, hFp_12, hg.to (by omega), HP⟩
            case measure => simp [intOf]; omega
          · 
            have ys : w11.heap.size < w12.heap.size := by omega
            have xs0 : w12.cell? ⟨w11.heap.size, 0, none⟩ = some (.slice A3 p2.monos.length c3) := hBs_12 0 _ rfl
            have fs := hFs_12
            have yp : w3.heap.size < w12.heap.size := by omega
            have xp0 : w12.cell? ⟨w3.heap.size, 0, none⟩ = some (.slice A1 p.monos.length c1) := hBp_12 0 _ rfl
            have fp := hFp_12
            go_upto_region 4 with fail
            clear xs0 ys
            clear fs
            clear xp0 yp
            clear fp
            have hR13 := Rdr.hold (w' := (w12.setCell ⟨w3.heap.size, 0, none⟩ (.slice A3 p2.monos.length c3))) hR12
            have hT13 : Turn [rb] w (w12.setCell ⟨w3.heap.size, 0, none⟩ (.slice A3 p2.monos.length c3)) := Turn.hold hT12
            have hs13 : w12.heap.size ≤ ((w12.setCell ⟨w3.heap.size, 0, none⟩ (.slice A3 p2.monos.length c3))).heap.size := by simp
            have hBp_13 : Bx (w12.setCell ⟨w3.heap.size, 0, none⟩ (.slice A3 p2.monos.length c3)) (w3.heap.size) [.slice A3 p2.monos.length c3] := by have := Bx.put hBp_12 (j := 0) (by simp) (.slice A3 p2.monos.length c3); simpa using this
            have hFp_13 : ∀ oo, (w12.setCell ⟨w3.heap.size, 0, none⟩ (.slice A3 p2.monos.length c3)).frozen? ⟨w3.heap.size, oo, none⟩ = false := fz_hold hFp_12
            have hBres_13 : Bx (w12.setCell ⟨w3.heap.size, 0, none⟩ (.slice A3 p2.monos.length c3)) (w.heap.size) [.slice none 0 0] := Bx.hold hBres_12
            have hFres_13 : ∀ oo, (w12.setCell ⟨w3.heap.size, 0, none⟩ (.slice A3 p2.monos.length c3)).frozen? ⟨w.heap.size, oo, none⟩ = false := fz_hold hFres_12
            have hBs_13 : Bx (w12.setCell ⟨w3.heap.size, 0, none⟩ (.slice A3 p2.monos.length c3)) (w11.heap.size) [.slice A3 p2.monos.length c3] := Bx.hold hBs_12
            have hFs_13 : ∀ oo, (w12.setCell ⟨w3.heap.size, 0, none⟩ (.slice A3 p2.monos.length c3)).frozen? ⟨w11.heap.size, oo, none⟩ = false := fz_hold hFs_12
            clear hBres_12 hFres_12 hBp_12 hFp_12 hBs_12 hFs_12
            have hg2_ := GlB.turn (w' := (w12.setCell ⟨w3.heap.size, 0, none⟩ (.slice A3 p2.monos.length c3))) (F := [w3.heap.size]) hg2 (Turn.hold (Turn.refl _ _)) (fun x hx => by simp at hx; omega)
            clear hg2
            have hg2 := hg2_
            clear hg2_
            generalize (w12.setCell ⟨w3.heap.size, 0, none⟩ (.slice A3 p2.monos.length c3)) = w13 at *
            go_wp2_with fail
            go_roundw
            case rel => exact ⟨k - 1, p2, A3, c3, by omega, by go_num, (Rdr.hold hR13).up (by omega), Turn.hold hT13, by first | omega | (simp; done) | (simp; omega), hBres_13, hFres_13, hBp_13, hFp_13, hg2.to (by omega), (hide (HOK.out rfl))⟩
            case measure => simp [intOf]; omega
    · 
      have qk : decide (0 < k) = false := decide_eq_false hk0
      have qk2 : decide ((0 : Int) < (k : Int)) = false := decide_eq_false (by omega)
      have yp : w3.heap.size < w6.heap.size := by omega
      have xp0 : w6.cell? ⟨w3.heap.size, 0, none⟩ = some (.slice A1 p.monos.length c1) := hBp_6 0 _ rfl
      have fp := hFp_6
      have yres : w.heap.size < w6.heap.size := by omega
      have xres0 : w6.cell? ⟨w.heap.size, 0, none⟩ = some (.slice none 0 0) := hBres_6 0 _ rfl
      have fres := hFres_6
      go_wp2
      refine bodyPost_ret (v := .agg #[.slice A1 p.monos.length c1]) (by simp [results, Try.results26, go_sem, xres0]) rfl ⟨⟨p, A1, c1, rfl, ((GlB.turn (F := [w.heap.size]) hg (Turn.hold (Turn.refl _ _)) (fun x hx => by simp at hx; omega)).gl).down (by omega), HP.out⟩, (Rdr.hold hR6).up (by omega), Turn.hold hT6⟩

end Go.Proofs.Ytmbclopkopfngaa
