/-
  TabPutLaw
-/
import Derived.Test.YtmbclopkopfngaaVDrawTP
import Derived.Test.YtmbclopkopfngaaVLaT
import Derived.Test.YtmbclopkopfngaaVSymPure
import Derived.Test.YtmbclopkopfngaaVPutI
import Derived.Test.YtmbclopkopfngaaVPutS
import Derived.Test.YtmbclopkopfngaaVTabF
import Derived.Test.YtmbclopkopfngaaVTy
import Derived.Deep.DeepCutAuto
namespace Go.Proofs.Ytmbclopkopfngaa
open Go.RowKit

set_option linter.unusedVariables false
set_option linter.unusedSimpArgs false
set_option maxRecDepth 100000

theorem laOk_any (w : World) : Calls Try.prog 10 #[] w fun e w' => e = .returned (.bool true) ∧ Ext w w' := by
  have q1 : inB 1 0 65535 = true := by decide
  go_enter Try.func10, Try.ntmps10
  go_wp2_with (go_at_call 32; refine (implWrdOk_any _ _).mono ?_; rintro e w' ⟨rfl, rfl⟩)
  go_ret
  exact ⟨rfl, Ext.refl _⟩

set_option maxHeartbeats 32000000 in
theorem lawTabPut_any (code : List UInt8) (vcode : Value) (w : World) (hcode : Sl w (Old w) vcode code)  :
    Calls Try.prog 3 #[vcode] w fun e w' => e = .returned (.bool true) ∧ Ext w w' := by
  obtain ⟨Acode, ccode, rfl, hlcode, hmcode⟩ := hcode.form
  by_cases hbig : (1048576 : Int) < (code.length : Int)
  · have qb0 : decide ((1048576 : Int) < (code.length : Int)) = true := decide_eq_true hbig
    go_enter Try.func3, Try.ntmps3
    go_wp2
    go_ret
    exact ⟨rfl, Ext.refl _⟩
  have qb0 : decide ((1048576 : Int) < (code.length : Int)) = false := decide_eq_false hbig
  clear hbig
  go_enter Try.func3, Try.ntmps3
  have he0 : Ext w w := Ext.refl _
  have hs0 : w.heap.size ≤ w.heap.size := Nat.le_refl _
  go_wp2_with fail
  refine (drawTabPut_any code _ _ (hcode.ext (Ext.trans he0 Ext.auto))).mono ?_
  rintro e w1 ⟨⟨L, a, A1, A2, A3, c1, c2, c3, rfl, S_t, S_x, S_y, hka, hbl, hba⟩, hy⟩
  have hy_ : Ext w w1 := Ext.trans Ext.auto hy
  clear hy
  have hx1 : Ext w w1 := Ext.trans (Ext.auto) hy_
  have hs1 := hx1.size
  have he1 : Ext w w1 := he0.trans hx1
  clear hy_
  obtain ⟨t, ht⟩ : ∃ t : TabTab, t.atoms = L := ⟨⟨L⟩, rfl⟩
  subst ht
  rw [← blk_tab] at hbl
  obtain ⟨U, hU⟩ : ∃ U, U = tabPut t a := ⟨_, rfl⟩
  obtain ⟨K, hK⟩ : ∃ K, K = tabPutAt t a := ⟨_, rfl⟩
  have HL := hide (tab_law t a)
  rw [← hU, ← hK] at HL
  have HU := hide hU
  have HK := hide hK
  clear hU hK
  have qK : (K != K) = false := by simp
  go_upto_region 4 with fail
  have he2 : Ext w ((w1.alloc (.cells #[.slice A1 t.atoms.length c1] 25)).alloc (.cells #[.int .i64 a.kind, .int .i64 a.k, .slice A2 a.x.monos.length c2, .slice A3 a.y.monos.length c3] 30)) := Ext.hold he1
  have hx2 : Ext w1 ((w1.alloc (.cells #[.slice A1 t.atoms.length c1] 25)).alloc (.cells #[.int .i64 a.kind, .int .i64 a.k, .slice A2 a.x.monos.length c2, .slice A3 a.y.monos.length c3] 30)) := Ext.auto
  have hs2 : w1.heap.size + 2 ≤ (((w1.alloc (.cells #[.slice A1 t.atoms.length c1] 25)).alloc (.cells #[.int .i64 a.kind, .int .i64 a.k, .slice A2 a.x.monos.length c2, .slice A3 a.y.monos.length c3] 30))).heap.size := by simp
  have hBt_2 : Bx ((w1.alloc (.cells #[.slice A1 t.atoms.length c1] 25)).alloc (.cells #[.int .i64 a.kind, .int .i64 a.k, .slice A2 a.x.monos.length c2, .slice A3 a.y.monos.length c3] 30)) (w1.heap.size) [.slice A1 t.atoms.length c1] := Bx.alloc (Bx.new w1 #[.slice A1 t.atoms.length c1] 25) (by simp) _ _
  have hFt_2 : ∀ oo, ((w1.alloc (.cells #[.slice A1 t.atoms.length c1] 25)).alloc (.cells #[.int .i64 a.kind, .int .i64 a.k, .slice A2 a.x.monos.length c2, .slice A3 a.y.monos.length c3] 30)).frozen? ⟨w1.heap.size, oo, none⟩ = false := fz_alloc (fz_new w1 #[.slice A1 t.atoms.length c1] 25 rfl) (by simp) _
  have hBa_2 : Bx ((w1.alloc (.cells #[.slice A1 t.atoms.length c1] 25)).alloc (.cells #[.int .i64 a.kind, .int .i64 a.k, .slice A2 a.x.monos.length c2, .slice A3 a.y.monos.length c3] 30)) (w1.heap.size + 1) [.int .i64 a.kind, .int .i64 a.k, .slice A2 a.x.monos.length c2, .slice A3 a.y.monos.length c3] := by have := Bx.new (w1.alloc (.cells #[.slice A1 t.atoms.length c1] 25)) #[.int .i64 a.kind, .int .i64 a.k, .slice A2 a.x.monos.length c2, .slice A3 a.y.monos.length c3] 30; simpa using this
  have hFa_2 : ∀ oo, ((w1.alloc (.cells #[.slice A1 t.atoms.length c1] 25)).alloc (.cells #[.int .i64 a.kind, .int .i64 a.k, .slice A2 a.x.monos.length c2, .slice A3 a.y.monos.length c3] 30)).frozen? ⟨w1.heap.size + 1, oo, none⟩ = false := by simp
  generalize ((w1.alloc (.cells #[.slice A1 t.atoms.length c1] 25)).alloc (.cells #[.int .i64 a.kind, .int .i64 a.k, .slice A2 a.x.monos.length c2, .slice A3 a.y.monos.length c3] 30)) = w2 at *
  have yt : w1.heap.size < w2.heap.size := by omega
  have xt0 : w2.cell? ⟨w1.heap.size, 0, none⟩ = some (.slice A1 t.atoms.length c1) := hBt_2 0 _ rfl
  have ya : w1.heap.size + 1 < w2.heap.size := by omega
  have xa0 := hBa_2 0 _ rfl
  have xa1 := hBa_2 1 _ rfl
  have xa2 := hBa_2 2 _ rfl
  have xa3 := hBa_2 3 _ rfl
  go_wp2_with fail
  refine (implTabPut_any t a _ _ _ _ (S_t.ext (Ext.trans hx2 Ext.auto)) (S_x.ext (Ext.trans hx2 Ext.auto)) (S_y.ext (Ext.trans hx2 Ext.auto)) hka (by omega) (by omega)).mono ?_
  rintro e w3 ⟨r_, F_, rfl, ho_, hf_, hy⟩
  clear xt0 yt
  clear xa0 xa1 xa2 xa3 ya
  have hy_ : Ext w2 w3 := Ext.trans Ext.auto hy
  clear hy
  have hx3 : Ext w2 w3 := Ext.trans (Ext.auto) hy_
  have hs3 := hx3.size
  have he3 : Ext w w3 := he2.trans hx3
  have hBt_3 : Bx w3 (w1.heap.size) [.slice A1 t.atoms.length c1] := hx3.bx hBt_2 (by omega)
  have hFt_3 : ∀ oo, w3.frozen? ⟨w1.heap.size, oo, none⟩ = false := fun oo => (hx3.frozen (by omega)).trans (hFt_2 oo)
  have hBa_3 : Bx w3 (w1.heap.size + 1) [.int .i64 a.kind, .int .i64 a.k, .slice A2 a.x.monos.length c2, .slice A3 a.y.monos.length c3] := hx3.bx hBa_2 (by omega)
  have hFa_3 : ∀ oo, w3.frozen? ⟨w1.heap.size + 1, oo, none⟩ = false := fun oo => (hx3.frozen (by omega)).trans (hFa_2 oo)
  clear hBt_2 hFt_2 hBa_2 hFa_2
  clear hy_
  rw [← HK.out]
  rw [← HU.out] at ho_
  have S_u := ho_.old hf_
  obtain ⟨A4, c4, rfl, -, -⟩ := S_u.form
  clear ho_ hf_
  go_upto_region 5 with fail
  have he4 : Ext w (w3.alloc (.cells #[.slice A4 U.atoms.length c4] 25)) := Ext.hold he3
  have hx4 : Ext w3 (w3.alloc (.cells #[.slice A4 U.atoms.length c4] 25)) := Ext.auto
  have hs4 : w3.heap.size + 1 ≤ ((w3.alloc (.cells #[.slice A4 U.atoms.length c4] 25))).heap.size := by simp
  have hBt_4 : Bx (w3.alloc (.cells #[.slice A4 U.atoms.length c4] 25)) (w1.heap.size) [.slice A1 t.atoms.length c1] := Bx.hold hBt_3
  have hFt_4 : ∀ oo, (w3.alloc (.cells #[.slice A4 U.atoms.length c4] 25)).frozen? ⟨w1.heap.size, oo, none⟩ = false := fz_hold hFt_3
  have hBa_4 : Bx (w3.alloc (.cells #[.slice A4 U.atoms.length c4] 25)) (w1.heap.size + 1) [.int .i64 a.kind, .int .i64 a.k, .slice A2 a.x.monos.length c2, .slice A3 a.y.monos.length c3] := Bx.hold hBa_3
  have hFa_4 : ∀ oo, (w3.alloc (.cells #[.slice A4 U.atoms.length c4] 25)).frozen? ⟨w1.heap.size + 1, oo, none⟩ = false := fz_hold hFa_3
  have hBu_4 : Bx (w3.alloc (.cells #[.slice A4 U.atoms.length c4] 25)) (w3.heap.size) [.slice A4 U.atoms.length c4] := Bx.new w3 #[.slice A4 U.atoms.length c4] 25
  have hFu_4 : ∀ oo, (w3.alloc (.cells #[.slice A4 U.atoms.length c4] 25)).frozen? ⟨w3.heap.size, oo, none⟩ = false := fz_new w3 #[.slice A4 U.atoms.length c4] 25 rfl
  generalize (w3.alloc (.cells #[.slice A4 U.atoms.length c4] 25)) = w4 at *
  clear hBt_3 hFt_3 hBa_3 hFa_3
  have yt : w1.heap.size < w4.heap.size := by omega
  have xt0 : w4.cell? ⟨w1.heap.size, 0, none⟩ = some (.slice A1 t.atoms.length c1) := hBt_4 0 _ rfl
  have ya : w1.heap.size + 1 < w4.heap.size := by omega
  have xa0 := hBa_4 0 _ rfl
  have xa1 := hBa_4 1 _ rfl
  have xa2 := hBa_4 2 _ rfl
  have xa3 := hBa_4 3 _ rfl
  go_wp2_with fail
  refine (specTabPut_any t a _ _ _ _ (S_t.ext (Ext.trans (Ext.trans (Ext.trans hx2 hx3) hx4) Ext.auto)) (S_x.ext (Ext.trans (Ext.trans (Ext.trans hx2 hx3) hx4) Ext.auto)) (S_y.ext (Ext.trans (Ext.trans (Ext.trans hx2 hx3) hx4) Ext.auto)) hka (by omega) (by omega)).mono ?_
  rintro e w5 ⟨r_, F_, rfl, ho_, hf_, hy, -⟩
  clear xt0 yt
  clear xa0 xa1 xa2 xa3 ya
  have hy_ : Ext w4 w5 := Ext.trans Ext.auto hy
  clear hy
  have hx5 : Ext w4 w5 := Ext.trans (Ext.auto) hy_
  have hs5 := hx5.size
  have he5 : Ext w w5 := he4.trans hx5
  have hBt_5 : Bx w5 (w1.heap.size) [.slice A1 t.atoms.length c1] := hx5.bx hBt_4 (by omega)
  have hFt_5 : ∀ oo, w5.frozen? ⟨w1.heap.size, oo, none⟩ = false := fun oo => (hx5.frozen (by omega)).trans (hFt_4 oo)
  have hBa_5 : Bx w5 (w1.heap.size + 1) [.int .i64 a.kind, .int .i64 a.k, .slice A2 a.x.monos.length c2, .slice A3 a.y.monos.length c3] := hx5.bx hBa_4 (by omega)
  have hFa_5 : ∀ oo, w5.frozen? ⟨w1.heap.size + 1, oo, none⟩ = false := fun oo => (hx5.frozen (by omega)).trans (hFa_4 oo)
  have hBu_5 : Bx w5 (w3.heap.size) [.slice A4 U.atoms.length c4] := hx5.bx hBu_4 (by omega)
  have hFu_5 : ∀ oo, w5.frozen? ⟨w3.heap.size, oo, none⟩ = false := fun oo => (hx5.frozen (by omega)).trans (hFu_4 oo)
  clear hBt_4 hFt_4 hBa_4 hFa_4 hBu_4 hFu_4
  clear hy_
  rw [← HK.out]
  rw [← HU.out] at ho_
  have S_wu := ho_.old hf_
  obtain ⟨A5, c5, rfl, -, -⟩ := S_wu.form
  clear ho_ hf_
  go_upto_region 6 with fail
  have he6 : Ext w (w5.alloc (.cells #[.slice A5 U.atoms.length c5] 25)) := Ext.hold he5
  have hx6 : Ext w5 (w5.alloc (.cells #[.slice A5 U.atoms.length c5] 25)) := Ext.auto
  have hs6 : w5.heap.size + 1 ≤ ((w5.alloc (.cells #[.slice A5 U.atoms.length c5] 25))).heap.size := by simp
  have hBt_6 : Bx (w5.alloc (.cells #[.slice A5 U.atoms.length c5] 25)) (w1.heap.size) [.slice A1 t.atoms.length c1] := Bx.hold hBt_5
  have hFt_6 : ∀ oo, (w5.alloc (.cells #[.slice A5 U.atoms.length c5] 25)).frozen? ⟨w1.heap.size, oo, none⟩ = false := fz_hold hFt_5
  have hBa_6 : Bx (w5.alloc (.cells #[.slice A5 U.atoms.length c5] 25)) (w1.heap.size + 1) [.int .i64 a.kind, .int .i64 a.k, .slice A2 a.x.monos.length c2, .slice A3 a.y.monos.length c3] := Bx.hold hBa_5
  have hFa_6 : ∀ oo, (w5.alloc (.cells #[.slice A5 U.atoms.length c5] 25)).frozen? ⟨w1.heap.size + 1, oo, none⟩ = false := fz_hold hFa_5
  have hBu_6 : Bx (w5.alloc (.cells #[.slice A5 U.atoms.length c5] 25)) (w3.heap.size) [.slice A4 U.atoms.length c4] := Bx.hold hBu_5
  have hFu_6 : ∀ oo, (w5.alloc (.cells #[.slice A5 U.atoms.length c5] 25)).frozen? ⟨w3.heap.size, oo, none⟩ = false := fz_hold hFu_5
  have hBwu_6 : Bx (w5.alloc (.cells #[.slice A5 U.atoms.length c5] 25)) (w5.heap.size) [.slice A5 U.atoms.length c5] := Bx.new w5 #[.slice A5 U.atoms.length c5] 25
  have hFwu_6 : ∀ oo, (w5.alloc (.cells #[.slice A5 U.atoms.length c5] 25)).frozen? ⟨w5.heap.size, oo, none⟩ = false := fz_new w5 #[.slice A5 U.atoms.length c5] 25 rfl
  generalize (w5.alloc (.cells #[.slice A5 U.atoms.length c5] 25)) = w6 at *
  clear hBt_5 hFt_5 hBa_5 hFa_5 hBu_5 hFu_5
  have yu : w3.heap.size < w6.heap.size := by omega
  have xu0 : w6.cell? ⟨w3.heap.size, 0, none⟩ = some (.slice A4 U.atoms.length c4) := hBu_6 0 _ rfl
  have ywu : w5.heap.size < w6.heap.size := by omega
  have xwu0 : w6.cell? ⟨w5.heap.size, 0, none⟩ = some (.slice A5 U.atoms.length c5) := hBwu_6 0 _ rfl
  go_wp2_with fail
  refine (laTab_any U U _ _ _ (S_u.ext (Ext.trans (Ext.trans (Ext.trans hx4 hx5) hx6) Ext.auto)) (S_wu.ext (Ext.trans hx6 Ext.auto))).mono ?_
  rintro e w7 ⟨rfl, hy⟩
  clear xu0 yu
  clear xwu0 ywu
  have hy_ : Ext w6 w7 := Ext.trans Ext.auto hy
  clear hy
  have hx7 : Ext w6 w7 := Ext.trans (Ext.auto) hy_
  have hs7 := hx7.size
  have he7 : Ext w w7 := he6.trans hx7
  have hBt_7 : Bx w7 (w1.heap.size) [.slice A1 t.atoms.length c1] := hx7.bx hBt_6 (by omega)
  have hFt_7 : ∀ oo, w7.frozen? ⟨w1.heap.size, oo, none⟩ = false := fun oo => (hx7.frozen (by omega)).trans (hFt_6 oo)
  have hBa_7 : Bx w7 (w1.heap.size + 1) [.int .i64 a.kind, .int .i64 a.k, .slice A2 a.x.monos.length c2, .slice A3 a.y.monos.length c3] := hx7.bx hBa_6 (by omega)
  have hFa_7 : ∀ oo, w7.frozen? ⟨w1.heap.size + 1, oo, none⟩ = false := fun oo => (hx7.frozen (by omega)).trans (hFa_6 oo)
  have hBu_7 : Bx w7 (w3.heap.size) [.slice A4 U.atoms.length c4] := hx7.bx hBu_6 (by omega)
  have hFu_7 : ∀ oo, w7.frozen? ⟨w3.heap.size, oo, none⟩ = false := fun oo => (hx7.frozen (by omega)).trans (hFu_6 oo)
  have hBwu_7 : Bx w7 (w5.heap.size) [.slice A5 U.atoms.length c5] := hx7.bx hBwu_6 (by omega)
  have hFwu_7 : ∀ oo, w7.frozen? ⟨w5.heap.size, oo, none⟩ = false := fun oo => (hx7.frozen (by omega)).trans (hFwu_6 oo)
  clear hBt_6 hFt_6 hBa_6 hFa_6 hBu_6 hFu_6 hBwu_6 hFwu_6
  clear hy_
  rw [show decide (U = U) = true from by simp]
  go_upto_region 8 with fail
  clear qK
  rcases HL.out with ⟨hk, hq⟩ | ⟨hk, hok, hj, hu, hq⟩
  · 
    have qk : decide (K < 0) = true := decide_eq_true hk
    clear hk HL
    by_cases hut : U = t
    · 
      have d1 : decide (U = t) = true := decide_eq_true hut
      clear hut hq
      have yu : w3.heap.size < w7.heap.size := by omega
      have xu0 : w7.cell? ⟨w3.heap.size, 0, none⟩ = some (.slice A4 U.atoms.length c4) := hBu_7 0 _ rfl
      have yt : w1.heap.size < w7.heap.size := by omega
      have xt0 : w7.cell? ⟨w1.heap.size, 0, none⟩ = some (.slice A1 t.atoms.length c1) := hBt_7 0 _ rfl
      go_wp2_with fail
      refine (laTab_any U t _ _ _ (S_u.ext (Ext.trans (Ext.trans (Ext.trans (Ext.trans hx4 hx5) hx6) hx7) Ext.auto)) (S_t.ext (Ext.trans (Ext.trans (Ext.trans (Ext.trans (Ext.trans (Ext.trans hx2 hx3) hx4) hx5) hx6) hx7) Ext.auto))).mono ?_
      rintro e w8 ⟨rfl, hy⟩
      clear xu0 yu
      clear xt0 yt
      have hy_ : Ext w7 w8 := Ext.trans Ext.auto hy
      clear hy
      have hx8 : Ext w7 w8 := Ext.trans (Ext.auto) hy_
      have hs8 := hx8.size
      have he8 : Ext w w8 := he7.trans hx8
      have hBt_8 : Bx w8 (w1.heap.size) [.slice A1 t.atoms.length c1] := hx8.bx hBt_7 (by omega)
      have hFt_8 : ∀ oo, w8.frozen? ⟨w1.heap.size, oo, none⟩ = false := fun oo => (hx8.frozen (by omega)).trans (hFt_7 oo)
      have hBa_8 : Bx w8 (w1.heap.size + 1) [.int .i64 a.kind, .int .i64 a.k, .slice A2 a.x.monos.length c2, .slice A3 a.y.monos.length c3] := hx8.bx hBa_7 (by omega)
      have hFa_8 : ∀ oo, w8.frozen? ⟨w1.heap.size + 1, oo, none⟩ = false := fun oo => (hx8.frozen (by omega)).trans (hFa_7 oo)
      have hBu_8 : Bx w8 (w3.heap.size) [.slice A4 U.atoms.length c4] := hx8.bx hBu_7 (by omega)
      have hFu_8 : ∀ oo, w8.frozen? ⟨w3.heap.size, oo, none⟩ = false := fun oo => (hx8.frozen (by omega)).trans (hFu_7 oo)
      have hBwu_8 : Bx w8 (w5.heap.size) [.slice A5 U.atoms.length c5] := hx8.bx hBwu_7 (by omega)
      have hFwu_8 : ∀ oo, w8.frozen? ⟨w5.heap.size, oo, none⟩ = false := fun oo => (hx8.frozen (by omega)).trans (hFwu_7 oo)
      clear hBt_7 hFt_7 hBa_7 hFa_7 hBu_7 hFu_7 hBwu_7 hFwu_7
      clear hy_
      rw [d1]
      have yu : w3.heap.size < w8.heap.size := by omega
      have xu0 : w8.cell? ⟨w3.heap.size, 0, none⟩ = some (.slice A4 U.atoms.length c4) := hBu_8 0 _ rfl
      go_wp2_with fail
      refine (laOk_any _).mono ?_
      rintro e w9 ⟨rfl, hy⟩
      have hy_ : Ext w8 w9 := Ext.trans Ext.auto hy
      clear hy
      have hx9 : Ext w8 w9 := Ext.trans (Ext.auto) hy_
      have hs9 := hx9.size
      have he9 : Ext w w9 := he8.trans hx9
      have hBt_9 : Bx w9 (w1.heap.size) [.slice A1 t.atoms.length c1] := hx9.bx hBt_8 (by omega)
      have hFt_9 : ∀ oo, w9.frozen? ⟨w1.heap.size, oo, none⟩ = false := fun oo => (hx9.frozen (by omega)).trans (hFt_8 oo)
      have hBa_9 : Bx w9 (w1.heap.size + 1) [.int .i64 a.kind, .int .i64 a.k, .slice A2 a.x.monos.length c2, .slice A3 a.y.monos.length c3] := hx9.bx hBa_8 (by omega)
      have hFa_9 : ∀ oo, w9.frozen? ⟨w1.heap.size + 1, oo, none⟩ = false := fun oo => (hx9.frozen (by omega)).trans (hFa_8 oo)
      have hBu_9 : Bx w9 (w3.heap.size) [.slice A4 U.atoms.length c4] := hx9.bx hBu_8 (by omega)
      have hFu_9 : ∀ oo, w9.frozen? ⟨w3.heap.size, oo, none⟩ = false := fun oo => (hx9.frozen (by omega)).trans (hFu_8 oo)
      have hBwu_9 : Bx w9 (w5.heap.size) [.slice A5 U.atoms.length c5] := hx9.bx hBwu_8 (by omega)
      have hFwu_9 : ∀ oo, w9.frozen? ⟨w5.heap.size, oo, none⟩ = false := fun oo => (hx9.frozen (by omega)).trans (hFwu_8 oo)
      clear hBt_8 hFt_8 hBa_8 hFa_8 hBu_8 hFu_8 hBwu_8 hFwu_8
      clear hy_
      clear yu xu0
      go_wp2_with fail
      go_ret
      exact ⟨rfl, Ext.hold he9⟩
    · 
      have d1 : decide (U = t) = false := decide_eq_false hut
      have hz : U.atoms.length = 0 := hq.resolve_left hut
      have qz : ((U.atoms.length : Int) == 0) = true := by rw [hz]; rfl
      clear hut hq hz
      have yu : w3.heap.size < w7.heap.size := by omega
      have xu0 : w7.cell? ⟨w3.heap.size, 0, none⟩ = some (.slice A4 U.atoms.length c4) := hBu_7 0 _ rfl
      have yt : w1.heap.size < w7.heap.size := by omega
      have xt0 : w7.cell? ⟨w1.heap.size, 0, none⟩ = some (.slice A1 t.atoms.length c1) := hBt_7 0 _ rfl
      go_wp2_with fail
      refine (laTab_any U t _ _ _ (S_u.ext (Ext.trans (Ext.trans (Ext.trans (Ext.trans hx4 hx5) hx6) hx7) Ext.auto)) (S_t.ext (Ext.trans (Ext.trans (Ext.trans (Ext.trans (Ext.trans (Ext.trans hx2 hx3) hx4) hx5) hx6) hx7) Ext.auto))).mono ?_
      rintro e w8 ⟨rfl, hy⟩
      clear xu0 yu
      clear xt0 yt
      have hy_ : Ext w7 w8 := Ext.trans Ext.auto hy
      clear hy
      have hx8 : Ext w7 w8 := Ext.trans (Ext.auto) hy_
      have hs8 := hx8.size
      have he8 : Ext w w8 := he7.trans hx8
      have hBt_8 : Bx w8 (w1.heap.size) [.slice A1 t.atoms.length c1] := hx8.bx hBt_7 (by omega)
      have hFt_8 : ∀ oo, w8.frozen? ⟨w1.heap.size, oo, none⟩ = false := fun oo => (hx8.frozen (by omega)).trans (hFt_7 oo)
      have hBa_8 : Bx w8 (w1.heap.size + 1) [.int .i64 a.kind, .int .i64 a.k, .slice A2 a.x.monos.length c2, .slice A3 a.y.monos.length c3] := hx8.bx hBa_7 (by omega)
      have hFa_8 : ∀ oo, w8.frozen? ⟨w1.heap.size + 1, oo, none⟩ = false := fun oo => (hx8.frozen (by omega)).trans (hFa_7 oo)
      have hBu_8 : Bx w8 (w3.heap.size) [.slice A4 U.atoms.length c4] := hx8.bx hBu_7 (by omega)
      have hFu_8 : ∀ oo, w8.frozen? ⟨w3.heap.size, oo, none⟩ = false := fun oo => (hx8.frozen (by omega)).trans (hFu_7 oo)
      have hBwu_8 : Bx w8 (w5.heap.size) [.slice A5 U.atoms.length c5] := hx8.bx hBwu_7 (by omega)
      have hFwu_8 : ∀ oo, w8.frozen? ⟨w5.heap.size, oo, none⟩ = false := fun oo => (hx8.frozen (by omega)).trans (hFwu_7 oo)
      clear hBt_7 hFt_7 hBa_7 hFa_7 hBu_7 hFu_7 hBwu_7 hFwu_7
      clear hy_
      rw [d1]
      have yu : w3.heap.size < w8.heap.size := by omega
      have xu0 : w8.cell? ⟨w3.heap.size, 0, none⟩ = some (.slice A4 U.atoms.length c4) := hBu_8 0 _ rfl
      go_wp2_with fail
      refine (laOk_any _).mono ?_
      rintro e w9 ⟨rfl, hy⟩
      have hy_ : Ext w8 w9 := Ext.trans Ext.auto hy
      clear hy
      have hx9 : Ext w8 w9 := Ext.trans (Ext.auto) hy_
      have hs9 := hx9.size
      have he9 : Ext w w9 := he8.trans hx9
      have hBt_9 : Bx w9 (w1.heap.size) [.slice A1 t.atoms.length c1] := hx9.bx hBt_8 (by omega)
      have hFt_9 : ∀ oo, w9.frozen? ⟨w1.heap.size, oo, none⟩ = false := fun oo => (hx9.frozen (by omega)).trans (hFt_8 oo)
      have hBa_9 : Bx w9 (w1.heap.size + 1) [.int .i64 a.kind, .int .i64 a.k, .slice A2 a.x.monos.length c2, .slice A3 a.y.monos.length c3] := hx9.bx hBa_8 (by omega)
      have hFa_9 : ∀ oo, w9.frozen? ⟨w1.heap.size + 1, oo, none⟩ = false := fun oo => (hx9.frozen (by omega)).trans (hFa_8 oo)
      have hBu_9 : Bx w9 (w3.heap.size) [.slice A4 U.atoms.length c4] := hx9.bx hBu_8 (by omega)
      have hFu_9 : ∀ oo, w9.frozen? ⟨w3.heap.size, oo, none⟩ = false := fun oo => (hx9.frozen (by omega)).trans (hFu_8 oo)
      have hBwu_9 : Bx w9 (w5.heap.size) [.slice A5 U.atoms.length c5] := hx9.bx hBwu_8 (by omega)
      have hFwu_9 : ∀ oo, w9.frozen? ⟨w5.heap.size, oo, none⟩ = false := fun oo => (hx9.frozen (by omega)).trans (hFwu_8 oo)
      clear hBt_8 hFt_8 hBa_8 hFa_8 hBu_8 hFu_8 hBwu_8 hFwu_8
      clear hy_
      clear yu xu0
      go_wp2_with fail
      go_ret
      exact ⟨rfl, Ext.hold he9⟩
  · 
    have qk : decide (K < 0) = false := decide_eq_false (by omega)
    have hbU := (tab_blk hok).2
    have HJ := hide hj
    have HV := hide hu
    have HOK := hide hok
    clear HL hj hu hok
    have yu : w3.heap.size < w7.heap.size := by omega
    have xu0 : w7.cell? ⟨w3.heap.size, 0, none⟩ = some (.slice A4 U.atoms.length c4) := hBu_7 0 _ rfl
    have ya : w1.heap.size + 1 < w7.heap.size := by omega
    have xa0 := hBa_7 0 _ rfl
    have xa1 := hBa_7 1 _ rfl
    have xa2 := hBa_7 2 _ rfl
    have xa3 := hBa_7 3 _ rfl
    go_wp2_with fail
    refine (implTabPut_any U a _ _ _ _ (S_u.ext (Ext.trans (Ext.trans (Ext.trans (Ext.trans hx4 hx5) hx6) hx7) Ext.auto)) (S_x.ext (Ext.trans (Ext.trans (Ext.trans (Ext.trans (Ext.trans (Ext.trans hx2 hx3) hx4) hx5) hx6) hx7) Ext.auto)) (S_y.ext (Ext.trans (Ext.trans (Ext.trans (Ext.trans (Ext.trans (Ext.trans hx2 hx3) hx4) hx5) hx6) hx7) Ext.auto)) hka (by omega) (by omega)).mono ?_
    rintro e w8 ⟨r_, F_, rfl, ho_, hf_, hy⟩
    clear xu0 yu
    clear xa0 xa1 xa2 xa3 ya
    have hy_ : Ext w7 w8 := Ext.trans Ext.auto hy
    clear hy
    have hx8 : Ext w7 w8 := Ext.trans (Ext.auto) hy_
    have hs8 := hx8.size
    have he8 : Ext w w8 := he7.trans hx8
    have hBt_8 : Bx w8 (w1.heap.size) [.slice A1 t.atoms.length c1] := hx8.bx hBt_7 (by omega)
    have hFt_8 : ∀ oo, w8.frozen? ⟨w1.heap.size, oo, none⟩ = false := fun oo => (hx8.frozen (by omega)).trans (hFt_7 oo)
    have hBa_8 : Bx w8 (w1.heap.size + 1) [.int .i64 a.kind, .int .i64 a.k, .slice A2 a.x.monos.length c2, .slice A3 a.y.monos.length c3] := hx8.bx hBa_7 (by omega)
    have hFa_8 : ∀ oo, w8.frozen? ⟨w1.heap.size + 1, oo, none⟩ = false := fun oo => (hx8.frozen (by omega)).trans (hFa_7 oo)
    have hBu_8 : Bx w8 (w3.heap.size) [.slice A4 U.atoms.length c4] := hx8.bx hBu_7 (by omega)
    have hFu_8 : ∀ oo, w8.frozen? ⟨w3.heap.size, oo, none⟩ = false := fun oo => (hx8.frozen (by omega)).trans (hFu_7 oo)
    have hBwu_8 : Bx w8 (w5.heap.size) [.slice A5 U.atoms.length c5] := hx8.bx hBwu_7 (by omega)
    have hFwu_8 : ∀ oo, w8.frozen? ⟨w5.heap.size, oo, none⟩ = false := fun oo => (hx8.frozen (by omega)).trans (hFwu_7 oo)
    clear hBt_7 hFt_7 hBa_7 hFa_7 hBu_7 hFu_7 hBwu_7 hFwu_7
    clear hy_
    rw [HJ.out]
    rw [HV.out] at ho_
    have S_v := ho_.old hf_
    obtain ⟨A6, c6, rfl, -, -⟩ := S_v.form
    clear ho_ hf_
    go_upto_region 11 with fail
    have he9 : Ext w (w8.alloc (.cells #[.slice A6 U.atoms.length c6] 25)) := Ext.hold he8
    have hx9 : Ext w8 (w8.alloc (.cells #[.slice A6 U.atoms.length c6] 25)) := Ext.auto
    have hs9 : w8.heap.size + 1 ≤ ((w8.alloc (.cells #[.slice A6 U.atoms.length c6] 25))).heap.size := by simp
    have hBt_9 : Bx (w8.alloc (.cells #[.slice A6 U.atoms.length c6] 25)) (w1.heap.size) [.slice A1 t.atoms.length c1] := Bx.hold hBt_8
    have hFt_9 : ∀ oo, (w8.alloc (.cells #[.slice A6 U.atoms.length c6] 25)).frozen? ⟨w1.heap.size, oo, none⟩ = false := fz_hold hFt_8
    have hBa_9 : Bx (w8.alloc (.cells #[.slice A6 U.atoms.length c6] 25)) (w1.heap.size + 1) [.int .i64 a.kind, .int .i64 a.k, .slice A2 a.x.monos.length c2, .slice A3 a.y.monos.length c3] := Bx.hold hBa_8
    have hFa_9 : ∀ oo, (w8.alloc (.cells #[.slice A6 U.atoms.length c6] 25)).frozen? ⟨w1.heap.size + 1, oo, none⟩ = false := fz_hold hFa_8
    have hBu_9 : Bx (w8.alloc (.cells #[.slice A6 U.atoms.length c6] 25)) (w3.heap.size) [.slice A4 U.atoms.length c4] := Bx.hold hBu_8
    have hFu_9 : ∀ oo, (w8.alloc (.cells #[.slice A6 U.atoms.length c6] 25)).frozen? ⟨w3.heap.size, oo, none⟩ = false := fz_hold hFu_8
    have hBwu_9 : Bx (w8.alloc (.cells #[.slice A6 U.atoms.length c6] 25)) (w5.heap.size) [.slice A5 U.atoms.length c5] := Bx.hold hBwu_8
    have hFwu_9 : ∀ oo, (w8.alloc (.cells #[.slice A6 U.atoms.length c6] 25)).frozen? ⟨w5.heap.size, oo, none⟩ = false := fz_hold hFwu_8
    have hBv_9 : Bx (w8.alloc (.cells #[.slice A6 U.atoms.length c6] 25)) (w8.heap.size) [.slice A6 U.atoms.length c6] := Bx.new w8 #[.slice A6 U.atoms.length c6] 25
    have hFv_9 : ∀ oo, (w8.alloc (.cells #[.slice A6 U.atoms.length c6] 25)).frozen? ⟨w8.heap.size, oo, none⟩ = false := fz_new w8 #[.slice A6 U.atoms.length c6] 25 rfl
    generalize (w8.alloc (.cells #[.slice A6 U.atoms.length c6] 25)) = w9 at *
    clear hBt_8 hFt_8 hBa_8 hFa_8 hBu_8 hFu_8 hBwu_8 hFwu_8
    have qe : (K == K) = true := by simp
    by_cases hut : U = t
    · 
      have d1 : decide (U = t) = true := decide_eq_true hut
      clear hut hq
      have yu : w3.heap.size < w9.heap.size := by omega
      have xu0 : w9.cell? ⟨w3.heap.size, 0, none⟩ = some (.slice A4 U.atoms.length c4) := hBu_9 0 _ rfl
      have yt : w1.heap.size < w9.heap.size := by omega
      have xt0 : w9.cell? ⟨w1.heap.size, 0, none⟩ = some (.slice A1 t.atoms.length c1) := hBt_9 0 _ rfl
      have yv : w8.heap.size < w9.heap.size := by omega
      have xv0 : w9.cell? ⟨w8.heap.size, 0, none⟩ = some (.slice A6 U.atoms.length c6) := hBv_9 0 _ rfl
      go_wp2_with fail
      refine (implTabOk_any U _ _ (S_u.ext (Ext.trans (Ext.trans (Ext.trans (Ext.trans (Ext.trans (Ext.trans hx4 hx5) hx6) hx7) hx8) hx9) Ext.auto)) (by omega)).mono ?_
      rintro e w10 ⟨rfl, hy⟩
      clear xu0 yu
      clear xt0 yt
      clear xv0 yv
      have hy_ : Ext w9 w10 := Ext.trans Ext.auto hy
      clear hy
      have hx10 : Ext w9 w10 := Ext.trans (Ext.auto) hy_
      have hs10 := hx10.size
      have he10 : Ext w w10 := he9.trans hx10
      have hBt_10 : Bx w10 (w1.heap.size) [.slice A1 t.atoms.length c1] := hx10.bx hBt_9 (by omega)
      have hFt_10 : ∀ oo, w10.frozen? ⟨w1.heap.size, oo, none⟩ = false := fun oo => (hx10.frozen (by omega)).trans (hFt_9 oo)
      have hBa_10 : Bx w10 (w1.heap.size + 1) [.int .i64 a.kind, .int .i64 a.k, .slice A2 a.x.monos.length c2, .slice A3 a.y.monos.length c3] := hx10.bx hBa_9 (by omega)
      have hFa_10 : ∀ oo, w10.frozen? ⟨w1.heap.size + 1, oo, none⟩ = false := fun oo => (hx10.frozen (by omega)).trans (hFa_9 oo)
      have hBu_10 : Bx w10 (w3.heap.size) [.slice A4 U.atoms.length c4] := hx10.bx hBu_9 (by omega)
      have hFu_10 : ∀ oo, w10.frozen? ⟨w3.heap.size, oo, none⟩ = false := fun oo => (hx10.frozen (by omega)).trans (hFu_9 oo)
      have hBwu_10 : Bx w10 (w5.heap.size) [.slice A5 U.atoms.length c5] := hx10.bx hBwu_9 (by omega)
      have hFwu_10 : ∀ oo, w10.frozen? ⟨w5.heap.size, oo, none⟩ = false := fun oo => (hx10.frozen (by omega)).trans (hFwu_9 oo)
      have hBv_10 : Bx w10 (w8.heap.size) [.slice A6 U.atoms.length c6] := hx10.bx hBv_9 (by omega)
      have hFv_10 : ∀ oo, w10.frozen? ⟨w8.heap.size, oo, none⟩ = false := fun oo => (hx10.frozen (by omega)).trans (hFv_9 oo)
      clear hBt_9 hFt_9 hBa_9 hFa_9 hBu_9 hFu_9 hBwu_9 hFwu_9 hBv_9 hFv_9
      clear hy_
      rw [HOK.out]
      have yu : w3.heap.size < w10.heap.size := by omega
      have xu0 : w10.cell? ⟨w3.heap.size, 0, none⟩ = some (.slice A4 U.atoms.length c4) := hBu_10 0 _ rfl
      have yt : w1.heap.size < w10.heap.size := by omega
      have xt0 : w10.cell? ⟨w1.heap.size, 0, none⟩ = some (.slice A1 t.atoms.length c1) := hBt_10 0 _ rfl
      have yv : w8.heap.size < w10.heap.size := by omega
      have xv0 : w10.cell? ⟨w8.heap.size, 0, none⟩ = some (.slice A6 U.atoms.length c6) := hBv_10 0 _ rfl
      go_wp2_with fail
      refine (laTab_any U U _ _ _ (S_u.ext (Ext.trans (Ext.trans (Ext.trans (Ext.trans (Ext.trans (Ext.trans (Ext.trans hx4 hx5) hx6) hx7) hx8) hx9) hx10) Ext.auto)) (S_v.ext (Ext.trans (Ext.trans hx9 hx10) Ext.auto))).mono ?_
      rintro e w11 ⟨rfl, hy⟩
      clear xu0 yu
      clear xt0 yt
      clear xv0 yv
      have hy_ : Ext w10 w11 := Ext.trans Ext.auto hy
      clear hy
      have hx11 : Ext w10 w11 := Ext.trans (Ext.auto) hy_
      have hs11 := hx11.size
      have he11 : Ext w w11 := he10.trans hx11
      have hBt_11 : Bx w11 (w1.heap.size) [.slice A1 t.atoms.length c1] := hx11.bx hBt_10 (by omega)
      have hFt_11 : ∀ oo, w11.frozen? ⟨w1.heap.size, oo, none⟩ = false := fun oo => (hx11.frozen (by omega)).trans (hFt_10 oo)
      have hBa_11 : Bx w11 (w1.heap.size + 1) [.int .i64 a.kind, .int .i64 a.k, .slice A2 a.x.monos.length c2, .slice A3 a.y.monos.length c3] := hx11.bx hBa_10 (by omega)
      have hFa_11 : ∀ oo, w11.frozen? ⟨w1.heap.size + 1, oo, none⟩ = false := fun oo => (hx11.frozen (by omega)).trans (hFa_10 oo)
      have hBu_11 : Bx w11 (w3.heap.size) [.slice A4 U.atoms.length c4] := hx11.bx hBu_10 (by omega)
      have hFu_11 : ∀ oo, w11.frozen? ⟨w3.heap.size, oo, none⟩ = false := fun oo => (hx11.frozen (by omega)).trans (hFu_10 oo)
      have hBwu_11 : Bx w11 (w5.heap.size) [.slice A5 U.atoms.length c5] := hx11.bx hBwu_10 (by omega)
      have hFwu_11 : ∀ oo, w11.frozen? ⟨w5.heap.size, oo, none⟩ = false := fun oo => (hx11.frozen (by omega)).trans (hFwu_10 oo)
      have hBv_11 : Bx w11 (w8.heap.size) [.slice A6 U.atoms.length c6] := hx11.bx hBv_10 (by omega)
      have hFv_11 : ∀ oo, w11.frozen? ⟨w8.heap.size, oo, none⟩ = false := fun oo => (hx11.frozen (by omega)).trans (hFv_10 oo)
      clear hBt_10 hFt_10 hBa_10 hFa_10 hBu_10 hFu_10 hBwu_10 hFwu_10 hBv_10 hFv_10
      clear hy_
      rw [show decide (U = U) = true from by simp]
      have yu : w3.heap.size < w11.heap.size := by omega
      have xu0 : w11.cell? ⟨w3.heap.size, 0, none⟩ = some (.slice A4 U.atoms.length c4) := hBu_11 0 _ rfl
      have yt : w1.heap.size < w11.heap.size := by omega
      have xt0 : w11.cell? ⟨w1.heap.size, 0, none⟩ = some (.slice A1 t.atoms.length c1) := hBt_11 0 _ rfl
      have yv : w8.heap.size < w11.heap.size := by omega
      have xv0 : w11.cell? ⟨w8.heap.size, 0, none⟩ = some (.slice A6 U.atoms.length c6) := hBv_11 0 _ rfl
      go_wp2_with fail
      refine (laTab_any U t _ _ _ (S_u.ext (Ext.trans (Ext.trans (Ext.trans (Ext.trans (Ext.trans (Ext.trans (Ext.trans (Ext.trans hx4 hx5) hx6) hx7) hx8) hx9) hx10) hx11) Ext.auto)) (S_t.ext (Ext.trans (Ext.trans (Ext.trans (Ext.trans (Ext.trans (Ext.trans (Ext.trans (Ext.trans (Ext.trans (Ext.trans hx2 hx3) hx4) hx5) hx6) hx7) hx8) hx9) hx10) hx11) Ext.auto))).mono ?_
      rintro e w12 ⟨rfl, hy⟩
      clear xu0 yu
      clear xt0 yt
      clear xv0 yv
      have hy_ : Ext w11 w12 := Ext.trans Ext.auto hy
      clear hy
      have hx12 : Ext w11 w12 := Ext.trans (Ext.auto) hy_
      have hs12 := hx12.size
      have he12 : Ext w w12 := he11.trans hx12
      have hBt_12 : Bx w12 (w1.heap.size) [.slice A1 t.atoms.length c1] := hx12.bx hBt_11 (by omega)
      have hFt_12 : ∀ oo, w12.frozen? ⟨w1.heap.size, oo, none⟩ = false := fun oo => (hx12.frozen (by omega)).trans (hFt_11 oo)
      have hBa_12 : Bx w12 (w1.heap.size + 1) [.int .i64 a.kind, .int .i64 a.k, .slice A2 a.x.monos.length c2, .slice A3 a.y.monos.length c3] := hx12.bx hBa_11 (by omega)
      have hFa_12 : ∀ oo, w12.frozen? ⟨w1.heap.size + 1, oo, none⟩ = false := fun oo => (hx12.frozen (by omega)).trans (hFa_11 oo)
      have hBu_12 : Bx w12 (w3.heap.size) [.slice A4 U.atoms.length c4] := hx12.bx hBu_11 (by omega)
      have hFu_12 : ∀ oo, w12.frozen? ⟨w3.heap.size, oo, none⟩ = false := fun oo => (hx12.frozen (by omega)).trans (hFu_11 oo)
      have hBwu_12 : Bx w12 (w5.heap.size) [.slice A5 U.atoms.length c5] := hx12.bx hBwu_11 (by omega)
      have hFwu_12 : ∀ oo, w12.frozen? ⟨w5.heap.size, oo, none⟩ = false := fun oo => (hx12.frozen (by omega)).trans (hFwu_11 oo)
      have hBv_12 : Bx w12 (w8.heap.size) [.slice A6 U.atoms.length c6] := hx12.bx hBv_11 (by omega)
      have hFv_12 : ∀ oo, w12.frozen? ⟨w8.heap.size, oo, none⟩ = false := fun oo => (hx12.frozen (by omega)).trans (hFv_11 oo)
      clear hBt_11 hFt_11 hBa_11 hFa_11 hBu_11 hFu_11 hBwu_11 hFwu_11 hBv_11 hFv_11
      clear hy_
      rw [d1]
      have yu : w3.heap.size < w12.heap.size := by omega
      have xu0 : w12.cell? ⟨w3.heap.size, 0, none⟩ = some (.slice A4 U.atoms.length c4) := hBu_12 0 _ rfl
      have yt : w1.heap.size < w12.heap.size := by omega
      have xt0 : w12.cell? ⟨w1.heap.size, 0, none⟩ = some (.slice A1 t.atoms.length c1) := hBt_12 0 _ rfl
      go_wp2_with fail
      go_ret
      exact ⟨rfl, Ext.hold he12⟩
    · 
      have d1 : decide (U = t) = false := decide_eq_false hut
      have hz := hq.resolve_left hut
      have qn : (K == (t.atoms.length : Int)) = true := by rw [hz.1]; simp
      have zK : IntKind.i64.wrap (K + 1) = K + 1 := by rw [IntKind.wrap_i64]; have := hz.1; have := (tab_blk HOK.out).1; omega
      have qm : ((U.atoms.length : Int) == K + 1) = true := by rw [hz.2]; simp
      clear hut hq hz
      have yu : w3.heap.size < w9.heap.size := by omega
      have xu0 : w9.cell? ⟨w3.heap.size, 0, none⟩ = some (.slice A4 U.atoms.length c4) := hBu_9 0 _ rfl
      have yt : w1.heap.size < w9.heap.size := by omega
      have xt0 : w9.cell? ⟨w1.heap.size, 0, none⟩ = some (.slice A1 t.atoms.length c1) := hBt_9 0 _ rfl
      have yv : w8.heap.size < w9.heap.size := by omega
      have xv0 : w9.cell? ⟨w8.heap.size, 0, none⟩ = some (.slice A6 U.atoms.length c6) := hBv_9 0 _ rfl
      go_wp2_with fail
      refine (implTabOk_any U _ _ (S_u.ext (Ext.trans (Ext.trans (Ext.trans (Ext.trans (Ext.trans (Ext.trans hx4 hx5) hx6) hx7) hx8) hx9) Ext.auto)) (by omega)).mono ?_
      rintro e w10 ⟨rfl, hy⟩
      clear xu0 yu
      clear xt0 yt
      clear xv0 yv
      have hy_ : Ext w9 w10 := Ext.trans Ext.auto hy
      clear hy
      have hx10 : Ext w9 w10 := Ext.trans (Ext.auto) hy_
      have hs10 := hx10.size
      have he10 : Ext w w10 := he9.trans hx10
      have hBt_10 : Bx w10 (w1.heap.size) [.slice A1 t.atoms.length c1] := hx10.bx hBt_9 (by omega)
      have hFt_10 : ∀ oo, w10.frozen? ⟨w1.heap.size, oo, none⟩ = false := fun oo => (hx10.frozen (by omega)).trans (hFt_9 oo)
      have hBa_10 : Bx w10 (w1.heap.size + 1) [.int .i64 a.kind, .int .i64 a.k, .slice A2 a.x.monos.length c2, .slice A3 a.y.monos.length c3] := hx10.bx hBa_9 (by omega)
      have hFa_10 : ∀ oo, w10.frozen? ⟨w1.heap.size + 1, oo, none⟩ = false := fun oo => (hx10.frozen (by omega)).trans (hFa_9 oo)
      have hBu_10 : Bx w10 (w3.heap.size) [.slice A4 U.atoms.length c4] := hx10.bx hBu_9 (by omega)
      have hFu_10 : ∀ oo, w10.frozen? ⟨w3.heap.size, oo, none⟩ = false := fun oo => (hx10.frozen (by omega)).trans (hFu_9 oo)
      have hBwu_10 : Bx w10 (w5.heap.size) [.slice A5 U.atoms.length c5] := hx10.bx hBwu_9 (by omega)
      have hFwu_10 : ∀ oo, w10.frozen? ⟨w5.heap.size, oo, none⟩ = false := fun oo => (hx10.frozen (by omega)).trans (hFwu_9 oo)
      have hBv_10 : Bx w10 (w8.heap.size) [.slice A6 U.atoms.length c6] := hx10.bx hBv_9 (by omega)
      have hFv_10 : ∀ oo, w10.frozen? ⟨w8.heap.size, oo, none⟩ = false := fun oo => (hx10.frozen (by omega)).trans (hFv_9 oo)
      clear hBt_9 hFt_9 hBa_9 hFa_9 hBu_9 hFu_9 hBwu_9 hFwu_9 hBv_9 hFv_9
      clear hy_
      rw [HOK.out]
      have yu : w3.heap.size < w10.heap.size := by omega
      have xu0 : w10.cell? ⟨w3.heap.size, 0, none⟩ = some (.slice A4 U.atoms.length c4) := hBu_10 0 _ rfl
      have yt : w1.heap.size < w10.heap.size := by omega
      have xt0 : w10.cell? ⟨w1.heap.size, 0, none⟩ = some (.slice A1 t.atoms.length c1) := hBt_10 0 _ rfl
      have yv : w8.heap.size < w10.heap.size := by omega
      have xv0 : w10.cell? ⟨w8.heap.size, 0, none⟩ = some (.slice A6 U.atoms.length c6) := hBv_10 0 _ rfl
      go_wp2_with fail
      refine (laTab_any U U _ _ _ (S_u.ext (Ext.trans (Ext.trans (Ext.trans (Ext.trans (Ext.trans (Ext.trans (Ext.trans hx4 hx5) hx6) hx7) hx8) hx9) hx10) Ext.auto)) (S_v.ext (Ext.trans (Ext.trans hx9 hx10) Ext.auto))).mono ?_
      rintro e w11 ⟨rfl, hy⟩
      clear xu0 yu
      clear xt0 yt
      clear xv0 yv
      have hy_ : Ext w10 w11 := Ext.trans Ext.auto hy
      clear hy
      have hx11 : Ext w10 w11 := Ext.trans (Ext.auto) hy_
      have hs11 := hx11.size
      have he11 : Ext w w11 := he10.trans hx11
      have hBt_11 : Bx w11 (w1.heap.size) [.slice A1 t.atoms.length c1] := hx11.bx hBt_10 (by omega)
      have hFt_11 : ∀ oo, w11.frozen? ⟨w1.heap.size, oo, none⟩ = false := fun oo => (hx11.frozen (by omega)).trans (hFt_10 oo)
      have hBa_11 : Bx w11 (w1.heap.size + 1) [.int .i64 a.kind, .int .i64 a.k, .slice A2 a.x.monos.length c2, .slice A3 a.y.monos.length c3] := hx11.bx hBa_10 (by omega)
      have hFa_11 : ∀ oo, w11.frozen? ⟨w1.heap.size + 1, oo, none⟩ = false := fun oo => (hx11.frozen (by omega)).trans (hFa_10 oo)
      have hBu_11 : Bx w11 (w3.heap.size) [.slice A4 U.atoms.length c4] := hx11.bx hBu_10 (by omega)
      have hFu_11 : ∀ oo, w11.frozen? ⟨w3.heap.size, oo, none⟩ = false := fun oo => (hx11.frozen (by omega)).trans (hFu_10 oo)
      have hBwu_11 : Bx w11 (w5.heap.size) [.slice A5 U.atoms.length c5] := hx11.bx hBwu_10 (by omega)
      have hFwu_11 : ∀ oo, w11.frozen? ⟨w5.heap.size, oo, none⟩ = false := fun oo => (hx11.frozen (by omega)).trans (hFwu_10 oo)
      have hBv_11 : Bx w11 (w8.heap.size) [.slice A6 U.atoms.length c6] := hx11.bx hBv_10 (by omega)
      have hFv_11 : ∀ oo, w11.frozen? ⟨w8.heap.size, oo, none⟩ = false := fun oo => (hx11.frozen (by omega)).trans (hFv_10 oo)
      clear hBt_10 hFt_10 hBa_10 hFa_10 hBu_10 hFu_10 hBwu_10 hFwu_10 hBv_10 hFv_10
      clear hy_
      rw [show decide (U = U) = true from by simp]
      have yu : w3.heap.size < w11.heap.size := by omega
      have xu0 : w11.cell? ⟨w3.heap.size, 0, none⟩ = some (.slice A4 U.atoms.length c4) := hBu_11 0 _ rfl
      have yt : w1.heap.size < w11.heap.size := by omega
      have xt0 : w11.cell? ⟨w1.heap.size, 0, none⟩ = some (.slice A1 t.atoms.length c1) := hBt_11 0 _ rfl
      have yv : w8.heap.size < w11.heap.size := by omega
      have xv0 : w11.cell? ⟨w8.heap.size, 0, none⟩ = some (.slice A6 U.atoms.length c6) := hBv_11 0 _ rfl
      go_wp2_with fail
      refine (laTab_any U t _ _ _ (S_u.ext (Ext.trans (Ext.trans (Ext.trans (Ext.trans (Ext.trans (Ext.trans (Ext.trans (Ext.trans hx4 hx5) hx6) hx7) hx8) hx9) hx10) hx11) Ext.auto)) (S_t.ext (Ext.trans (Ext.trans (Ext.trans (Ext.trans (Ext.trans (Ext.trans (Ext.trans (Ext.trans (Ext.trans (Ext.trans hx2 hx3) hx4) hx5) hx6) hx7) hx8) hx9) hx10) hx11) Ext.auto))).mono ?_
      rintro e w12 ⟨rfl, hy⟩
      clear xu0 yu
      clear xt0 yt
      clear xv0 yv
      have hy_ : Ext w11 w12 := Ext.trans Ext.auto hy
      clear hy
      have hx12 : Ext w11 w12 := Ext.trans (Ext.auto) hy_
      have hs12 := hx12.size
      have he12 : Ext w w12 := he11.trans hx12
      have hBt_12 : Bx w12 (w1.heap.size) [.slice A1 t.atoms.length c1] := hx12.bx hBt_11 (by omega)
      have hFt_12 : ∀ oo, w12.frozen? ⟨w1.heap.size, oo, none⟩ = false := fun oo => (hx12.frozen (by omega)).trans (hFt_11 oo)
      have hBa_12 : Bx w12 (w1.heap.size + 1) [.int .i64 a.kind, .int .i64 a.k, .slice A2 a.x.monos.length c2, .slice A3 a.y.monos.length c3] := hx12.bx hBa_11 (by omega)
      have hFa_12 : ∀ oo, w12.frozen? ⟨w1.heap.size + 1, oo, none⟩ = false := fun oo => (hx12.frozen (by omega)).trans (hFa_11 oo)
      have hBu_12 : Bx w12 (w3.heap.size) [.slice A4 U.atoms.length c4] := hx12.bx hBu_11 (by omega)
      have hFu_12 : ∀ oo, w12.frozen? ⟨w3.heap.size, oo, none⟩ = false := fun oo => (hx12.frozen (by omega)).trans (hFu_11 oo)
      have hBwu_12 : Bx w12 (w5.heap.size) [.slice A5 U.atoms.length c5] := hx12.bx hBwu_11 (by omega)
      have hFwu_12 : ∀ oo, w12.frozen? ⟨w5.heap.size, oo, none⟩ = false := fun oo => (hx12.frozen (by omega)).trans (hFwu_11 oo)
      have hBv_12 : Bx w12 (w8.heap.size) [.slice A6 U.atoms.length c6] := hx12.bx hBv_11 (by omega)
      have hFv_12 : ∀ oo, w12.frozen? ⟨w8.heap.size, oo, none⟩ = false := fun oo => (hx12.frozen (by omega)).trans (hFv_11 oo)
      clear hBt_11 hFt_11 hBa_11 hFa_11 hBu_11 hFu_11 hBwu_11 hFwu_11 hBv_11 hFv_11
      clear hy_
      rw [d1]
      have yu : w3.heap.size < w12.heap.size := by omega
      have xu0 : w12.cell? ⟨w3.heap.size, 0, none⟩ = some (.slice A4 U.atoms.length c4) := hBu_12 0 _ rfl
      have yt : w1.heap.size < w12.heap.size := by omega
      have xt0 : w12.cell? ⟨w1.heap.size, 0, none⟩ = some (.slice A1 t.atoms.length c1) := hBt_12 0 _ rfl
      go_wp2_with fail
      go_ret
      exact ⟨rfl, Ext.hold he12⟩

end Go.Proofs.Ytmbclopkopfngaa
