/-
  The law FnExactCacDrop returns true for every input.
-/
import Derived.Test.YtjemadbhpbbhlaaCacDrop
import Derived.Test.YtjemadbhpbbhlaaTo
import Derived.Test.YtjemadbhpbbhlaaEq
import Derived.Test.YtjemadbhpbbhlaaSz
import Derived.Test.YtjemadbhpbbhlaaMark
import Derived.Test.YtjemadbhpbbhlaaMarkN
import Derived.Test.YtjemadbhpbbhlaaCt
import Derived.Test.YtjemadbhpbbhlaaRegLib
import Derived.Test.YtjemadbhpbbhlaaCertLib
namespace Go.Proofs.Ytjemadbhpbbhlaa
open Go.RowKit

set_option linter.unusedVariables false
set_option linter.unusedSimpArgs false
set_option maxRecDepth 100000

set_option maxHeartbeats 16000000 in
theorem lawExactCacDrop_any (l : List CacEntry) (mem : List Int) (vl vmem : Value) (w : World) (hl : Sl w (Old w) vl l) (hmem : Sl w (Old w) vmem mem)   :
    Calls Try.prog 12 #[vl, vmem] w fun e w' => e = .returned (.bool true) ∧ Ext w w' := by
  obtain ⟨Al, cl, rfl, hll, hml⟩ := hl.form
  obtain ⟨Amem, cmem, rfl, hlmem, hmmem⟩ := hmem.form
  have hflmem := blk_flat mem (fun _ => rfl)
  by_cases hbigmem : (1048576 : Int) < (mem.length : Int)
  · go_enter Try.func12, Try.ntmps12
    go_wp2
    go_ret
    exact ⟨rfl, (Ext.auto)⟩
  have nmem : Bulk.blk mem ≤ 1048576 := by omega
  clear hflmem
  go_enter Try.func12, Try.ntmps12
  go_wp2_with fail
  have he0 : Ext w w := Ext.refl _
  have hs0 : w.heap.size ≤ w.heap.size := Nat.le_refl _
  go_wp2_with fail
  refine (sz_ListCacEntry l _ 1048576 _ (hl.ext (Ext.trans he0 (Ext.auto))) (by omega) (by omega)).mono ?_
  rintro e w1 ⟨rzl, rfl, hr, hy⟩
  have hx1 : Ext w w1 := Ext.trans (Ext.auto) hy
  have hs1 := hx1.size
  have he1 : Ext w w1 := he0.trans hx1
  clear hy
  rcases hr with ⟨hq, hl0⟩ | ⟨hq, hl0⟩
  rotate_left
  · have hz : rzl < 0 := by omega
    clear hq
    go_wp2
    go_ret
    exact ⟨rfl, he1⟩
  have hzl : 0 ≤ rzl := by omega
  have hyl : rzl ≤ 1048576 := by omega
  have nl : Bulk.blk l ≤ 1048576 := by omega
  have ml : ((Bulk.blk l : Nat) : Int) ≤ 1048576 - rzl := by omega
  have HQl := hide hq
  clear hq hl0
  go_wp2_with fail
  refine (to_ListCacEntry l _ _ (hl.ext (Ext.trans he1 (Ext.auto))) nl).mono ?_
  rintro e w2 ⟨r_pl1, F_pl1, rfl, ho_pl1, hf_pl, hy⟩
  have hx2 : Ext w1 w2 := Ext.trans (Ext.auto) hy
  have hs2 := hx2.size
  have he2 : Ext w w2 := he1.trans hx2
  clear hy
  obtain ⟨A_pl1, c_pl1, rfl, -, -⟩ := ho_pl1.sl.form
  have fr_pl : Fr w1 w2 (F_pl1) := hf_pl.mk1 (by first | exact Nat.le_refl _ | (simp; done)) (Nat.le_refl _)
  clear hf_pl
  go_wp2_with fail
  refine (to_ListInt mem _ _ (hmem.ext (Ext.trans he2 (Ext.auto))) nmem).mono ?_
  rintro e w3 ⟨r_pmem1, F_pmem1, rfl, ho_pmem1, hf_pmem, hy⟩
  have hx3 : Ext w2 w3 := Ext.trans (Ext.auto) hy
  have hs3 := hx3.size
  have he3 : Ext w w3 := he2.trans hx3
  clear hy
  obtain ⟨A_pmem1, c_pmem1, rfl, -, -⟩ := ho_pmem1.sl.form
  have fr_pmem : Fr w2 w3 (F_pmem1) := hf_pmem.mk1 (by first | exact Nat.le_refl _ | (simp; done)) (Nat.le_refl _)
  clear hf_pmem
  go_wp2_with fail
  refine (specCacDrop_any l mem _ _ _ ((OwnSl.up ho_pl1 (fr_pl.mk1 (Nat.le_refl _) (by omega)) hx3).old (fr_pl.mk1 (Nat.le_refl _) (by omega))) ((OwnSl.up ho_pmem1 (fr_pmem.mk1 (Nat.le_refl _) (by omega)) (Ext.refl _)).old (fr_pmem.mk1 (Nat.le_refl _) (by omega))) (by omega)).mono ?_
  rintro e w4 ⟨r_w1, F_w1, rfl, ho_w1, hf_w, hy⟩
  have hx4 : Ext w3 w4 := Ext.trans (Ext.auto) hy
  have hs4 := hx4.size
  have he4 : Ext w w4 := he3.trans hx4
  clear hy
  obtain ⟨A_w1, c_w1, rfl, -, -⟩ := ho_w1.sl.form
  have fr_w : Fr w3 w4 (F_w1) := hf_w.mk1 (by first | exact Nat.le_refl _ | (simp; done)) (Nat.le_refl _)
  clear hf_w
  go_wp2_with fail
  refine (to_ListCacEntry l _ _ (hl.ext (Ext.trans he4 (Ext.auto))) nl).mono ?_
  rintro e w5 ⟨r_xl1, F_xl1, rfl, ho_xl1, hf_xl, hy⟩
  have hx5 : Ext w4 w5 := Ext.trans (Ext.auto) hy
  have hs5 := hx5.size
  have he5 : Ext w w5 := he4.trans hx5
  clear hy
  obtain ⟨A_xl1, c_xl1, rfl, -, -⟩ := ho_xl1.sl.form
  have fr_xl : Fr w4 w5 (F_xl1) := hf_xl.mk1 (by first | exact Nat.le_refl _ | (simp; done)) (Nat.le_refl _)
  clear hf_xl
  go_wp2_with fail
  refine (to_ListInt mem _ _ (hmem.ext (Ext.trans he5 (Ext.auto))) nmem).mono ?_
  rintro e w6 ⟨r_xmem1, F_xmem1, rfl, ho_xmem1, hf_xmem, hy⟩
  have hx6 : Ext w5 w6 := Ext.trans (Ext.auto) hy
  have hs6 := hx6.size
  have he6 : Ext w w6 := he5.trans hx6
  clear hy
  obtain ⟨A_xmem1, c_xmem1, rfl, -, -⟩ := ho_xmem1.sl.form
  have fr_xmem : Fr w5 w6 (F_xmem1) := hf_xmem.mk1 (by first | exact Nat.le_refl _ | (simp; done)) (Nat.le_refl _)
  clear hf_xmem
  go_wp2_with fail
  refine (implCacDrop_any l mem _ _ _ ((OwnSl.up ho_xl1 (fr_xl.mk1 (Nat.le_refl _) (by omega)) hx6).old (fr_xl.mk1 (Nat.le_refl _) (by omega))) ((OwnSl.up ho_xmem1 (fr_xmem.mk1 (Nat.le_refl _) (by omega)) (Ext.refl _)).old (fr_xmem.mk1 (Nat.le_refl _) (by omega))) (by omega)).mono ?_
  rintro e w7 ⟨r_g1, F_g1, rfl, ho_g1, hf_g, hy⟩
  have hx7 : Ext w6 w7 := Ext.trans (Ext.auto) hy
  have hs7 := hx7.size
  have he7 : Ext w w7 := he6.trans hx7
  clear hy
  obtain ⟨A_g1, c_g1, rfl, -, -⟩ := ho_g1.sl.form
  have fr_g : Fr w6 w7 (F_g1) := hf_g.mk1 (by first | exact Nat.le_refl _ | (simp; done)) (Nat.le_refl _)
  clear hf_g
  go_wp2_with fail
  refine (eq_ListCacEntry (cacDrop l mem) (cacDrop l mem) _ _  _ ((OwnSl.up ho_g1 (fr_g.mk1 (Nat.le_refl _) (by omega)) (Ext.refl _)).old (fr_g.mk1 (Nat.le_refl _) (by omega))) ((OwnSl.up ho_w1 (fr_w.mk1 (Nat.le_refl _) (by omega)) (Ext.trans (Ext.trans hx5 hx6) hx7)).old (fr_w.mk1 (Nat.le_refl _) (by omega)))).mono ?_
  rintro e w8 ⟨rfl, hy⟩
  have hx8 : Ext w7 w8 := Ext.trans (Ext.auto) hy
  have hs8 := hx8.size
  have he8 : Ext w w8 := he7.trans hx8
  clear hy
  go_wp2_with fail
  refine (to_ListCacEntry l _ _ (hl.ext (Ext.trans he8 (Ext.auto))) nl).mono ?_
  rintro e w9 ⟨r_yl1, F_yl1, rfl, ho_yl1, hf_yl, hy⟩
  have hx9 : Ext w8 w9 := Ext.trans (Ext.auto) hy
  have hs9 := hx9.size
  have he9 : Ext w w9 := he8.trans hx9
  clear hy
  obtain ⟨A_yl1, c_yl1, rfl, -, -⟩ := ho_yl1.sl.form
  have fr_yl : Fr w8 w9 (F_yl1) := hf_yl.mk1 (by first | exact Nat.le_refl _ | (simp; done)) (Nat.le_refl _)
  clear hf_yl
  go_wp2_with fail
  refine (eq_ListCacEntry l l _ _  _ ((OwnSl.up ho_xl1 (fr_xl.mk1 (Nat.le_refl _) (by omega)) (Ext.trans (Ext.trans (Ext.trans hx6 hx7) hx8) hx9)).old (fr_xl.mk1 (Nat.le_refl _) (by omega))) ((OwnSl.up ho_yl1 (fr_yl.mk1 (Nat.le_refl _) (by omega)) (Ext.refl _)).old (fr_yl.mk1 (Nat.le_refl _) (by omega)))).mono ?_
  rintro e w10 ⟨rfl, hy⟩
  have hx10 : Ext w9 w10 := Ext.trans (Ext.auto) hy
  have hs10 := hx10.size
  have he10 : Ext w w10 := he9.trans hx10
  clear hy
  clear ho_yl1 fr_yl
  go_wp2_with fail
  refine (to_ListInt mem _ _ (hmem.ext (Ext.trans he10 (Ext.auto))) nmem).mono ?_
  rintro e w11 ⟨r_ymem1, F_ymem1, rfl, ho_ymem1, hf_ymem, hy⟩
  have hx11 : Ext w10 w11 := Ext.trans (Ext.auto) hy
  have hs11 := hx11.size
  have he11 : Ext w w11 := he10.trans hx11
  clear hy
  obtain ⟨A_ymem1, c_ymem1, rfl, -, -⟩ := ho_ymem1.sl.form
  have fr_ymem : Fr w10 w11 (F_ymem1) := hf_ymem.mk1 (by first | exact Nat.le_refl _ | (simp; done)) (Nat.le_refl _)
  clear hf_ymem
  go_wp2_with fail
  refine (eq_ListInt mem mem _ _  _ ((OwnSl.up ho_xmem1 (fr_xmem.mk1 (Nat.le_refl _) (by omega)) (Ext.trans (Ext.trans (Ext.trans (Ext.trans hx7 hx8) hx9) hx10) hx11)).old (fr_xmem.mk1 (Nat.le_refl _) (by omega))) ((OwnSl.up ho_ymem1 (fr_ymem.mk1 (Nat.le_refl _) (by omega)) (Ext.refl _)).old (fr_ymem.mk1 (Nat.le_refl _) (by omega)))).mono ?_
  rintro e w12 ⟨rfl, hy⟩
  have hx12 : Ext w11 w12 := Ext.trans (Ext.auto) hy
  have hs12 := hx12.size
  have he12 : Ext w w12 := he11.trans hx12
  clear hy
  clear ho_ymem1 fr_ymem
  clear ho_pl1 fr_pl
  clear ho_pmem1 fr_pmem
  have hct_xl := ct_le (l)
  go_wp2_with fail
  refine (mark_ListCacEntry (l) _ _ (1) _ (OwnSl.up ho_xl1 (fr_xl.mk1 (Nat.le_refl _) (by omega)) (Ext.trans (Ext.trans (Ext.trans (Ext.trans (Ext.trans (Ext.trans hx6 hx7) hx8) hx9) hx10) hx11) hx12)) fr_xl.1 (fun x hx => by have := (fr_xl.2 x hx).2; omega) (by omega) (by omega)).mono ?_
  rintro e w13 ⟨rfl, hm_xl1, hy⟩
  have hc13 : Chg F_xl1 w12 w13 := hy
  have hs13 := hc13.size
  have he13 : Ext w w13 := Chg.ext he12 hc13 (fun x hx => by have := (fr_xl.2 x hx).1; omega)
  have ho_w1' := (OwnSl.up ho_w1 (fr_w.mk1 (Nat.le_refl _) (by omega)) (Ext.trans (Ext.trans (Ext.trans (Ext.trans (Ext.trans (Ext.trans (Ext.trans hx5 hx6) hx7) hx8) hx9) hx10) hx11) hx12)).past fr_w (by omega) hc13 (fun x hx => (fr_w.apart fr_xl (by omega)) x (by simp [hx]))
  clear ho_w1
  have ho_w1 := ho_w1'
  clear ho_w1'
  have ho_xmem1' := (OwnSl.up ho_xmem1 (fr_xmem.mk1 (Nat.le_refl _) (by omega)) (Ext.trans (Ext.trans (Ext.trans (Ext.trans (Ext.trans hx7 hx8) hx9) hx10) hx11) hx12)).past fr_xmem (by omega) hc13 (fun x hx => (fr_xmem.apart' fr_xl (by omega)) x (by simp [hx]))
  clear ho_xmem1
  have ho_xmem1 := ho_xmem1'
  clear ho_xmem1'
  have ho_g1' := (OwnSl.up ho_g1 (fr_g.mk1 (Nat.le_refl _) (by omega)) (Ext.trans (Ext.trans (Ext.trans (Ext.trans hx8 hx9) hx10) hx11) hx12)).past fr_g (by omega) hc13 (fun x hx => (fr_g.apart' fr_xl (by omega)) x (by simp [hx]))
  clear ho_g1
  have ho_g1 := ho_g1'
  clear ho_g1'
  clear hy
  have hct_xmem := ct_le (mem)
  go_wp2_with fail
  refine (mark_ListInt (mem) _ _ (1 + ((Mk.ct (l) : Nat) : Int)) _ (OwnSl.up ho_xmem1 (fr_xmem.mk1 (Nat.le_refl _) (by omega)) (Ext.refl _)) fr_xmem.1 (fun x hx => by have := (fr_xmem.2 x hx).2; omega) (by omega) (by omega)).mono ?_
  rintro e w14 ⟨rfl, hm_xmem1, hy⟩
  have hc14 : Chg F_xmem1 w13 w14 := hy
  have hs14 := hc14.size
  have he14 : Ext w w14 := Chg.ext he13 hc14 (fun x hx => by have := (fr_xmem.2 x hx).1; omega)
  have ho_w1' := (OwnSl.up ho_w1 (fr_w.mk1 (Nat.le_refl _) (by omega)) (Ext.refl _)).past fr_w (by omega) hc14 (fun x hx => (fr_w.apart fr_xmem (by omega)) x (by simp [hx]))
  clear ho_w1
  have ho_w1 := ho_w1'
  clear ho_w1'
  have hm_xl1' := (OwnSl.up hm_xl1 (fr_xl.mk1 (Nat.le_refl _) (by omega)) (Ext.refl _)).past fr_xl (by omega) hc14 (fun x hx => (fr_xl.apart fr_xmem (by omega)) x (by simp [hx]))
  clear hm_xl1
  have hm_xl1 := hm_xl1'
  clear hm_xl1'
  have ho_g1' := (OwnSl.up ho_g1 (fr_g.mk1 (Nat.le_refl _) (by omega)) (Ext.refl _)).past fr_g (by omega) hc14 (fun x hx => (fr_g.apart' fr_xmem (by omega)) x (by simp [hx]))
  clear ho_g1
  have ho_g1 := ho_g1'
  clear ho_g1'
  clear hy
  go_wp2_with fail
  refine (eq_ListCacEntry (cacDrop l mem) (cacDrop l mem) _ _  _ ((OwnSl.up ho_g1 (fr_g.mk1 (Nat.le_refl _) (by omega)) (Ext.refl _)).old (fr_g.mk1 (Nat.le_refl _) (by omega))) ((OwnSl.up ho_w1 (fr_w.mk1 (Nat.le_refl _) (by omega)) (Ext.refl _)).old (fr_w.mk1 (Nat.le_refl _) (by omega)))).mono ?_
  rintro e w15 ⟨rfl, hy⟩
  have hx15 : Ext w14 w15 := Ext.trans (Ext.auto) hy
  have hs15 := hx15.size
  have he15 : Ext w w15 := he14.trans hx15
  clear hy
  clear hm_xl1 fr_xl
  clear hm_xmem1 fr_xmem
  have hct_g := ct_le (cacDrop l mem)
  have hrb := blk_cacDrop l mem
  go_wp2_with fail
  refine (mark_ListCacEntry (cacDrop l mem) _ _ (1) _ (OwnSl.up ho_g1 (fr_g.mk1 (Nat.le_refl _) (by omega)) hx15) fr_g.1 (fun x hx => by have := (fr_g.2 x hx).2; omega) (by omega) (by omega)).mono ?_
  rintro e w16 ⟨rfl, hm_g1, hy⟩
  have hc16 : Chg F_g1 w15 w16 := hy
  have hs16 := hc16.size
  have he16 : Ext w w16 := Chg.ext he15 hc16 (fun x hx => by have := (fr_g.2 x hx).1; omega)
  have ho_w1' := (OwnSl.up ho_w1 (fr_w.mk1 (Nat.le_refl _) (by omega)) hx15).past fr_w (by omega) hc16 (fun x hx => (fr_w.apart fr_g (by omega)) x (by simp [hx]))
  clear ho_w1
  have ho_w1 := ho_w1'
  clear ho_w1'
  clear hy
  go_wp2_with fail
  refine (held_ListCacEntry (cacDrop l mem) _ (1) _ ((OwnSl.up hm_g1 (fr_g.mk1 (Nat.le_refl _) (by omega)) (Ext.refl _)).old (fr_g.mk1 (Nat.le_refl _) (by omega))) (by omega) (by omega)).mono ?_
  rintro e w17 ⟨rfl, hy⟩
  have hx17 : Ext w16 w17 := Ext.trans (Ext.auto) hy
  have hs17 := hx17.size
  have he17 : Ext w w17 := he16.trans hx17
  clear hy
  go_wp2_with fail
  refine (to_ListCacEntry l _ _ (hl.ext (Ext.trans he17 (Ext.auto))) nl).mono ?_
  rintro e w18 ⟨r_zl1, F_zl1, rfl, ho_zl1, hf_zl, hy⟩
  have hx18 : Ext w17 w18 := Ext.trans (Ext.auto) hy
  have hs18 := hx18.size
  have he18 : Ext w w18 := he17.trans hx18
  clear hy
  obtain ⟨A_zl1, c_zl1, rfl, -, -⟩ := ho_zl1.sl.form
  have fr_zl : Fr w17 w18 (F_zl1) := hf_zl.mk1 (by first | exact Nat.le_refl _ | (simp; done)) (Nat.le_refl _)
  clear hf_zl
  go_wp2_with fail
  refine (to_ListInt mem _ _ (hmem.ext (Ext.trans he18 (Ext.auto))) nmem).mono ?_
  rintro e w19 ⟨r_zmem1, F_zmem1, rfl, ho_zmem1, hf_zmem, hy⟩
  have hx19 : Ext w18 w19 := Ext.trans (Ext.auto) hy
  have hs19 := hx19.size
  have he19 : Ext w w19 := he18.trans hx19
  clear hy
  obtain ⟨A_zmem1, c_zmem1, rfl, -, -⟩ := ho_zmem1.sl.form
  have fr_zmem : Fr w18 w19 (F_zmem1) := hf_zmem.mk1 (by first | exact Nat.le_refl _ | (simp; done)) (Nat.le_refl _)
  clear hf_zmem
  go_wp2_with fail
  refine (implCacDrop_any l mem _ _ _ ((OwnSl.up ho_zl1 (fr_zl.mk1 (Nat.le_refl _) (by omega)) hx19).old (fr_zl.mk1 (Nat.le_refl _) (by omega))) ((OwnSl.up ho_zmem1 (fr_zmem.mk1 (Nat.le_refl _) (by omega)) (Ext.refl _)).old (fr_zmem.mk1 (Nat.le_refl _) (by omega))) (by omega)).mono ?_
  rintro e w20 ⟨r_h1, F_h1, rfl, ho_h1, hf_h, hy⟩
  have hx20 : Ext w19 w20 := Ext.trans (Ext.auto) hy
  have hs20 := hx20.size
  have he20 : Ext w w20 := he19.trans hx20
  clear hy
  obtain ⟨A_h1, c_h1, rfl, -, -⟩ := ho_h1.sl.form
  have fr_h : Fr w19 w20 (F_h1) := hf_h.mk1 (by first | exact Nat.le_refl _ | (simp; done)) (Nat.le_refl _)
  clear hf_h
  go_wp2_with fail
  refine (eq_ListCacEntry (cacDrop l mem) (cacDrop l mem) _ _  _ ((OwnSl.up ho_h1 (fr_h.mk1 (Nat.le_refl _) (by omega)) (Ext.refl _)).old (fr_h.mk1 (Nat.le_refl _) (by omega))) ((OwnSl.up ho_w1 (fr_w.mk1 (Nat.le_refl _) (by omega)) (Ext.trans (Ext.trans (Ext.trans hx17 hx18) hx19) hx20)).old (fr_w.mk1 (Nat.le_refl _) (by omega)))).mono ?_
  rintro e w21 ⟨rfl, hy⟩
  have hx21 : Ext w20 w21 := Ext.trans (Ext.auto) hy
  have hs21 := hx21.size
  have he21 : Ext w w21 := he20.trans hx21
  clear hy
  go_wp2_with fail
  refine (held_ListCacEntry (cacDrop l mem) _ (1) _ ((OwnSl.up hm_g1 (fr_g.mk1 (Nat.le_refl _) (by omega)) (Ext.trans (Ext.trans (Ext.trans (Ext.trans hx17 hx18) hx19) hx20) hx21)).old (fr_g.mk1 (Nat.le_refl _) (by omega))) (by omega) (by omega)).mono ?_
  rintro e w22 ⟨rfl, hy⟩
  have hx22 : Ext w21 w22 := Ext.trans (Ext.auto) hy
  have hs22 := hx22.size
  have he22 : Ext w w22 := he21.trans hx22
  clear hy
  go_wp2
  go_ret
  exact ⟨rfl, he22⟩

end Go.Proofs.Ytjemadbhpbbhlaa
