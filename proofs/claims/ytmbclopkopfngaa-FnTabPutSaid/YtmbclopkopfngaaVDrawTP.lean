/-
  DrawTP
-/
import Derived.Test.YtmbclopkopfngaaVDrawTO
import Derived.Test.YtmbclopkopfngaaVRead
import Derived.Deep.DeepCutAuto
namespace Go.Proofs.Ytmbclopkopfngaa
open Go.RowKit

set_option linter.unusedVariables false
set_option linter.unusedSimpArgs false
set_option maxRecDepth 100000

theorem atom_at {w : World} {S : Nat → Prop} {b off n c : Nat} {l : List TabAtom} (h : Sl w S (.slice (some ⟨b, off, none⟩) n c) l) {i : Nat} (hi : i < l.length) :
    ∃ (v1 v2 : Value), S b ∧ l[i].Ok ∧ Sl w S v1 l[i].x.monos ∧ Sl w S v2 l[i].y.monos ∧ w.cell? ⟨b, off + i * 4, none⟩ = some (.int .i64 (l[i].kind)) ∧ w.cell? ⟨b, off + i * 4 + 1, none⟩ = some (.int .i64 (l[i].k)) ∧ w.cell? ⟨b, off + i * 4 + 2, none⟩ = some v1 ∧ w.cell? ⟨b, off + i * 4 + 3, none⟩ = some v2 := by
  obtain ⟨b', off', v1, v2, e, hb, hk, h1, h2, e0, e1, e2, e3⟩ := at_TabAtom h hi
  injection e with e
  injection e with q1 q2
  subst q1 q2
  exact ⟨v1, v2, hb, hk, h1, h2, e0, e1, e2, e3⟩

set_option maxHeartbeats 4000000 in
theorem drawTabPut_any (code : List UInt8) (vcode : Value) (w : World) (hcode : Sl w (Old w) vcode code)  :
    Calls Try.prog 6 #[vcode] w fun e w' => (∃ (L : List TabAtom) (a : TabAtom) (A1 A2 A3 : Option Addr) (c1 c2 c3 : Nat), e = .returned (.tuple #[.agg #[.slice A1 L.length c1], .agg #[.int .i64 a.kind, .int .i64 a.k, .slice A2 a.x.monos.length c2, .slice A3 a.y.monos.length c3]]) ∧ Sl w' (Old w') (.slice A1 L.length c1) L ∧ Sl w' (Old w') (.slice A2 a.x.monos.length c2) a.x.monos ∧ Sl w' (Old w') (.slice A3 a.y.monos.length c3) a.y.monos ∧ a.Ok ∧ Bulk.blk L ≤ 70000 ∧ Bulk.blk a ≤ 70000) ∧ Ext w w' := by
  obtain ⟨Acode, ccode, rfl, hlcode, hmcode⟩ := hcode.form
  go_enter Try.func6, Try.ntmps6
  go_upto_region 1 with fail
  have he0 : Ext w ((w.alloc (Obj.cells #[.slice none 0 0] 25)).alloc (Obj.cells #[.int .i64 0, .int .i64 0, .slice none 0 0, .slice none 0 0] 30)) := (Ext.auto)
  have hs0 : w.heap.size + 2 ≤ (((w.alloc (Obj.cells #[.slice none 0 0] 25)).alloc (Obj.cells #[.int .i64 0, .int .i64 0, .slice none 0 0, .slice none 0 0] 30))).heap.size := by simp
  have hq0 := hide (show (((w.alloc (Obj.cells #[.slice none 0 0] 25)).alloc (Obj.cells #[.int .i64 0, .int .i64 0, .slice none 0 0, .slice none 0 0] 30))).heap.size = w.heap.size + 2 by simp)
  have hBres1_0 : Bx ((w.alloc (Obj.cells #[.slice none 0 0] 25)).alloc (Obj.cells #[.int .i64 0, .int .i64 0, .slice none 0 0, .slice none 0 0] 30)) (w.heap.size) [.slice none 0 0] := (by have := (Bx.alloc (Bx.new w #[.slice none 0 0] 25) (by simp) #[.int .i64 0, .int .i64 0, .slice none 0 0, .slice none 0 0] 30); simpa using this)
  have hFres1_0 : ∀ oo, (((w.alloc (Obj.cells #[.slice none 0 0] 25)).alloc (Obj.cells #[.int .i64 0, .int .i64 0, .slice none 0 0, .slice none 0 0] 30))).frozen? ⟨w.heap.size, oo, none⟩ = false := fun oo => by simp
  have hBres2_0 : Bx ((w.alloc (Obj.cells #[.slice none 0 0] 25)).alloc (Obj.cells #[.int .i64 0, .int .i64 0, .slice none 0 0, .slice none 0 0] 30)) (w.heap.size + 1) [.int .i64 0, .int .i64 0, .slice none 0 0, .slice none 0 0] := (by have := (Bx.new (w.alloc (Obj.cells #[.slice none 0 0] 25)) #[.int .i64 0, .int .i64 0, .slice none 0 0, .slice none 0 0] 30); simpa using this)
  have hFres2_0 : ∀ oo, (((w.alloc (Obj.cells #[.slice none 0 0] 25)).alloc (Obj.cells #[.int .i64 0, .int .i64 0, .slice none 0 0, .slice none 0 0] 30))).frozen? ⟨w.heap.size + 1, oo, none⟩ = false := fun oo => by simp
  generalize ((w.alloc (Obj.cells #[.slice none 0 0] 25)).alloc (Obj.cells #[.int .i64 0, .int .i64 0, .slice none 0 0, .slice none 0 0] 30)) = w0 at *
  go_wp2_with fail
  refine (l20Open_any code _ _ (hcode.ext he0)).mono ?_
  rintro e w1 ⟨rfl, hR1, hx1⟩
  have hs1 := hx1.size
  have hs1_ := hR1.lt
  have hT1 : Turn [w0.heap.size] w w1 := Turn.of_ext (he0.trans hx1) _
  have hBres1_1 := hx1.bx hBres1_0 (by omega)
  have hFres1_1 : ∀ oo, w1.frozen? ⟨w.heap.size, oo, none⟩ = false := fun oo => (hx1.frozen (by omega)).trans (hFres1_0 oo)
  have hBres2_1 := hx1.bx hBres2_0 (by omega)
  have hFres2_1 : ∀ oo, w1.frozen? ⟨w.heap.size + 1, oo, none⟩ = false := fun oo => (hx1.frozen (by omega)).trans (hFres2_0 oo)
  clear hBres1_0 hFres1_0 hBres2_0 hFres2_0
  go_wp2_with fail
  refine (l21TabOr_any w0.heap.size (w0.heap.size + 1) _ _ (Rdr.hold hR1) (by omega) 12 (by omega) (by omega)).mono ?_
  rintro e w2 ⟨⟨L, A1, c1, rfl, hg, h0, h13, hbl⟩, hR2, hy⟩
  have hs2 := hy.size
  try simp at hs2
  have hT2 : Turn [w0.heap.size] w w2 := (Turn.hold hT1).trans hy
  have hBres1_2 : Bx w2 (w.heap.size) [.slice none 0 0] := hy.bx (Bx.hold hBres1_1) (by first | omega | (simp; done) | (simp; omega)) (by simp; omega)
  have hFres1_2 : ∀ oo, w2.frozen? ⟨w.heap.size, oo, none⟩ = false := fun oo => (hy.frozen (by first | omega | (simp; done) | (simp; omega)) (by simp; omega)).trans ((fz_hold hFres1_1) oo)
  have hBres2_2 : Bx w2 (w.heap.size + 1) [.int .i64 0, .int .i64 0, .slice none 0 0, .slice none 0 0] := hy.bx (Bx.hold hBres2_1) (by first | omega | (simp; done) | (simp; omega)) (by simp; omega)
  have hFres2_2 : ∀ oo, w2.frozen? ⟨w.heap.size + 1, oo, none⟩ = false := fun oo => (hy.frozen (by first | omega | (simp; done) | (simp; omega)) (by simp; omega)).trans ((fz_hold hFres2_1) oo)
  clear hBres1_1 hFres1_1 hBres2_1 hFres2_1
  clear hy
  replace hg := (GlB.of_gl hg).down (show w1.heap.size ≤ _ from (by first | omega | (simp; done) | (simp; omega)))
  obtain ⟨b, off, -, -, rfl, -⟩ := at_TabAtom hg.sl h0
  go_upto_region 3 with fail
  have hR3 := Rdr.hold (w' := (w2.alloc (.cells #[.slice (some ⟨b, off, none⟩) L.length c1] 25))) hR2
  have hT3 : Turn [w0.heap.size] w (w2.alloc (.cells #[.slice (some ⟨b, off, none⟩) L.length c1] 25)) := Turn.hold hT2
  have hs3 : w2.heap.size + 1 ≤ ((w2.alloc (.cells #[.slice (some ⟨b, off, none⟩) L.length c1] 25))).heap.size := by simp
  have hx3 : Ext w2 (w2.alloc (.cells #[.slice (some ⟨b, off, none⟩) L.length c1] 25)) := Ext.auto
  have hBt_3 : Bx (w2.alloc (.cells #[.slice (some ⟨b, off, none⟩) L.length c1] 25)) (w2.heap.size) [.slice (some ⟨b, off, none⟩) L.length c1] := (show Bx (w2.alloc (.cells #[.slice (some ⟨b, off, none⟩) L.length c1] 25)) w2.heap.size [.slice (some ⟨b, off, none⟩) L.length c1] from Bx.new w2 #[.slice (some ⟨b, off, none⟩) L.length c1] 25)
  have hFt_3 : ∀ oo, (w2.alloc (.cells #[.slice (some ⟨b, off, none⟩) L.length c1] 25)).frozen? ⟨w2.heap.size, oo, none⟩ = false := (show ∀ oo, (w2.alloc (.cells #[.slice (some ⟨b, off, none⟩) L.length c1] 25)).frozen? ⟨w2.heap.size, oo, none⟩ = false from fz_new w2 #[.slice (some ⟨b, off, none⟩) L.length c1] 25 rfl)
  have hBres1_3 : Bx (w2.alloc (.cells #[.slice (some ⟨b, off, none⟩) L.length c1] 25)) (w.heap.size) [.slice none 0 0] := Bx.hold hBres1_2
  have hFres1_3 : ∀ oo, (w2.alloc (.cells #[.slice (some ⟨b, off, none⟩) L.length c1] 25)).frozen? ⟨w.heap.size, oo, none⟩ = false := fz_hold hFres1_2
  have hBres2_3 : Bx (w2.alloc (.cells #[.slice (some ⟨b, off, none⟩) L.length c1] 25)) (w.heap.size + 1) [.int .i64 0, .int .i64 0, .slice none 0 0, .slice none 0 0] := Bx.hold hBres2_2
  have hFres2_3 : ∀ oo, (w2.alloc (.cells #[.slice (some ⟨b, off, none⟩) L.length c1] 25)).frozen? ⟨w.heap.size + 1, oo, none⟩ = false := fz_hold hFres2_2
  clear hBres1_2 hFres1_2 hBres2_2 hFres2_2
  replace hg := GlB.ext hg hx3
  generalize (w2.alloc (.cells #[.slice (some ⟨b, off, none⟩) L.length c1] 25)) = w3 at *
  have yt : w2.heap.size < w3.heap.size := by omega
  have xt0 : w3.cell? ⟨w2.heap.size, 0, none⟩ = some (.slice (some ⟨b, off, none⟩) L.length c1) := hBt_3 0 _ rfl
  have ft := hFt_3
  go_wp2_with fail
  clear xt0 yt
  clear ft
  skip
  skip
  refine (pick_any w0.heap.size (w0.heap.size + 1) _ _ (Rdr.hold hR3) (by omega) 5 (by omega) (by omega)).mono ?_
  rintro e w4 ⟨⟨v, rfl, lv, qv⟩, hR4, hy⟩
  have uv : v < 5 := by omega
  clear qv
  have hs4 := hy.size
  try simp at hs4
  have hT4 : Turn [w0.heap.size] w w4 := (Turn.hold hT3).trans hy
  have hBres1_4 : Bx w4 (w.heap.size) [.slice none 0 0] := hy.bx (Bx.hold hBres1_3) (by first | omega | (simp; done) | (simp; omega)) (by simp; omega)
  have hFres1_4 : ∀ oo, w4.frozen? ⟨w.heap.size, oo, none⟩ = false := fun oo => (hy.frozen (by first | omega | (simp; done) | (simp; omega)) (by simp; omega)).trans ((fz_hold hFres1_3) oo)
  have hBres2_4 : Bx w4 (w.heap.size + 1) [.int .i64 0, .int .i64 0, .slice none 0 0, .slice none 0 0] := hy.bx (Bx.hold hBres2_3) (by first | omega | (simp; done) | (simp; omega)) (by simp; omega)
  have hFres2_4 : ∀ oo, w4.frozen? ⟨w.heap.size + 1, oo, none⟩ = false := fun oo => (hy.frozen (by first | omega | (simp; done) | (simp; omega)) (by simp; omega)).trans ((fz_hold hFres2_3) oo)
  have hBt_4 : Bx w4 (w2.heap.size) [.slice (some ⟨b, off, none⟩) L.length c1] := hy.bx (Bx.hold hBt_3) (by first | omega | (simp; done) | (simp; omega)) (by simp; omega)
  have hFt_4 : ∀ oo, w4.frozen? ⟨w2.heap.size, oo, none⟩ = false := fun oo => (hy.frozen (by first | omega | (simp; done) | (simp; omega)) (by simp; omega)).trans ((fz_hold hFt_3) oo)
  clear hBres1_3 hFres1_3 hBres2_3 hFres2_3 hBt_3 hFt_3
  replace hg := GlB.turn (GlB.ext hg Ext.auto) hy (fun x hx => by simp at hx; omega)
  clear hy
  have hxW : Ext w w4 := Turn.ext hT4 (Ext.refl _) (by simp; omega)
  have hc : v = 0 ∨ v = 1 ∨ v = 2 ∨ (3 ≤ v ∧ v < 5) := by omega
  clear lv uv
  rcases hc with rfl | rfl | rfl | ⟨lv, uv⟩
  · 
    have hgW := hg.1
    obtain ⟨-, -, hgb, -⟩ := atom_at hgW h0
    have hup := hg.2
    have hSa : ∀ w', Turn [w0.heap.size, w.heap.size] w4 w' → ∀ oo, w'.cell? ⟨b, oo, none⟩ = w4.cell? ⟨b, oo, none⟩ := fun w' hx oo => hx.cell (by omega) (by simp; omega)
    skip
    have yt : w2.heap.size < w4.heap.size := by omega
    have xt0 : w4.cell? ⟨w2.heap.size, 0, none⟩ = some (.slice (some ⟨b, off, none⟩) L.length c1) := hBt_4 0 _ rfl
    have ft := hFt_4
    go_upto_region 6 with fail
    obtain ⟨qr, hqr⟩ : ∃ q, w.heap.size = q := ⟨_, rfl⟩
    rw [hqr] at hSa
    have hBr := hBres1_4
    have hFr := hFres1_4
    rw [hqr] at hBr hFr
    have hSt : ∀ w', Turn [w0.heap.size, qr] w4 w' → ∀ oo, w'.cell? ⟨w2.heap.size, oo, none⟩ = w4.cell? ⟨w2.heap.size, oo, none⟩ := fun w' hx oo => hx.cell (by omega) (by simp; omega)
    refine wp_region_plan2 (fun w' => Turn [w0.heap.size, qr] w4 w') 9 (.float 0 (.float 1 (.float 2 (.float 3 (.float 4 (.chain 5 (.float 6 (.float 7 (.chain 8 (.tail 9)))))))))) (by kernel_rfl) (by kernel_rfl) (Turn.of_ext (Ext.refl _).drew _) ?_
    have hC : Turn [w0.heap.size, qr] w4 w4.drew := Turn.of_ext (Ext.refl _).drew _
    have hR := Rdr.hold (w' := w4.drew) hR4
    replace hg := GlB.ext hg (Ext.refl _).drew
    replace hBr := Bx.hold (w' := w4.drew) hBr
    replace hFr : ∀ oo, w4.drew.frozen? ⟨qr, oo, none⟩ = false := fz_hold hFr
    rw [hqr]
    have hsz : w4.heap.size ≤ w4.drew.heap.size := Nat.le_refl _
    generalize w4.drew = wz at *
    repeat' (first
      | with_reducible refine Plan2.alt_step ?_ ?_
      | with_reducible exact Plan2.stop_pre
      | ((with_reducible refine Plan2.float_pre ?_); (refine Plan2.float_step (v := ?_) rfl (by rfl) (fun _ _ _ h => h) (fun w' hSw => ?_) ?_; rotate_left; · (go_simp; try with_reducible rfl)))
      | ((with_reducible refine Plan2.chain_pre ?_)
         refine Plan2.chain_step rfl (fun K hK => ?_)
         go_simp
         first
           | (refine (pick_any w0.heap.size (w0.heap.size + 1) _ _ (Rdr.hold hR) (by omega) (L.length : Int) (by omega) (by omega)).mono ?_
              rintro e wn ⟨⟨iv, rfl, li, qi⟩, hR, hy⟩
              obtain ⟨V, rfl⟩ := Int.eq_ofNat_of_zero_le li
              have hV : V < L.length := by omega
              clear qi
              have z0 : (0 : Int) ≤ (V : Int) := by omega
              have z1 : (V : Int) < (L.length : Int) := by omega
              obtain ⟨v1, v2, -, hk0, hv1, hv2, e0, e1, e2, e3⟩ := atom_at hgW hV
              obtain ⟨B1, d1, rfl, -, -⟩ := hv1.form
              obtain ⟨B2, d2, rfl, -, -⟩ := hv2.form
              have hbe := blk_el L V hV
              generalize L[V] = a at *
              have hgx : GlB w1.heap.size w2.heap.size w4 _ a.x.monos := ⟨hv1, hup⟩
              have hgy : GlB w1.heap.size w2.heap.size w4 _ a.y.monos := ⟨hv2, hup⟩
              clear hv1 hv2)
           | (have hC : Turn [w0.heap.size, qr] w4 (wz.setCell ⟨qr, 0, none⟩ (.slice (some ⟨b, off, none⟩) L.length c1)) := Turn.hold hC
              with_reducible refine hK.out _ _ hC ?_
              have hy : Turn [qr] wz (wz.setCell ⟨qr, 0, none⟩ (.slice (some ⟨b, off, none⟩) L.length c1)) := Turn.hold (Turn.refl _ _)
              clear hR
              have hBr : Bx (wz.setCell ⟨qr, 0, none⟩ (.slice (some ⟨b, off, none⟩) L.length c1)) qr [.slice (some ⟨b, off, none⟩) L.length c1] := by have := Bx.put hBr (j := 0) (by simp) (.slice (some ⟨b, off, none⟩) L.length c1); simpa using this
              have hFr : ∀ oo, (wz.setCell ⟨qr, 0, none⟩ (.slice (some ⟨b, off, none⟩) L.length c1)).frozen? ⟨qr, oo, none⟩ = false := fz_hold hFr
              generalize (wz.setCell ⟨qr, 0, none⟩ (.slice (some ⟨b, off, none⟩) L.length c1)) = wn at *)
         have hsz := hy.size
         try replace hg := GlB.turn hg hy (fun x hx => by first | (simp at hx; done) | (simp at hx; omega))
         try replace hBr := hy.bx hBr (by omega) (by first | (simp; done) | (simp; omega))
         try replace hFr := fun oo => (hy.frozen (by omega) (by first | (simp; done) | (simp; omega))).trans (hFr oo)
         try replace hC := hC.trans hy (fun x hx => .inl (by simp at hx; simp [hx]))
         try refine hK.out _ _ hC ?_
         clear hK hy
         obtain ⟨wz, hwz⟩ : ∃ wz : World, wz = wn := ⟨_, rfl⟩
         subst hwz
         try clear xr yr fr
         try (have xr := hBr 0 _ rfl; have yr : qr < wz.heap.size := (by omega); have fr := hFr)
         (try simp only [Act.put, List.setIfInBounds_toArray, List.set_cons_zero, List.set_cons_succ])))
    all_goals
      refine Plan2.tail_step ?_
      simp only [List.drop_succ_cons, List.drop_zero]
      clear hSt
      subst hqr
      replace hgx := GlB.turn hgx hC (fun x hx => by simp at hx; omega)
      replace hgy := GlB.turn hgy hC (fun x hx => by simp at hx; omega)
      have hx_ := hC.ext hxW (by simp; omega)
      have hBr2 := hC.bx hBres2_4 (by omega) (by simp; omega)
      have yr2 : w.heap.size + 1 < wz.heap.size := by omega
      have fr2 : ∀ oo, wz.frozen? ⟨w.heap.size + 1, oo, none⟩ = false := fun oo => (hC.frozen (by omega) (by simp; omega)).trans (hFres2_4 oo)
      clear xt0 yt ft
      have xr20 := hBr2 0 _ rfl
      have xr21 := hBr2 1 _ rfl
      have xr22 := hBr2 2 _ rfl
      have xr23 := hBr2 3 _ rfl
      have xr1 := hBr 0 _ rfl
      have yr1 : w.heap.size < wz.heap.size := by omega
      go_wp2
      refine bodyPost_ret (v := .tuple #[.agg #[.slice (some ⟨b, off, none⟩) L.length c1], .agg #[.int .i64 a.kind, .int .i64 a.k, .slice B1 a.x.monos.length d1, .slice B2 a.y.monos.length d2]]) (by simp [results, Try.results6, go_sem, xr1, xr20, xr21, xr22, xr23]) rfl ⟨⟨L, a, _, _, _, _, _, _, rfl, ((GlB.turn (F := [w.heap.size + 1]) (hg) (Turn.hold (Turn.refl _ _)) (fun x hx => by simp at hx; omega)).sl), ((GlB.turn (F := [w.heap.size + 1]) (hgx) (Turn.hold (Turn.refl _ _)) (fun x hx => by simp at hx; omega)).sl), ((GlB.turn (F := [w.heap.size + 1]) (hgy) (Turn.hold (Turn.refl _ _)) (fun x hx => by simp at hx; omega)).sl), hk0, hbl, by omega⟩, Ext.hold hx_⟩
  · 
    have yt : w2.heap.size < w4.heap.size := by omega
    have xt0 : w4.cell? ⟨w2.heap.size, 0, none⟩ = some (.slice (some ⟨b, off, none⟩) L.length c1) := hBt_4 0 _ rfl
    have ft := hFt_4
    go_upto_region 8 with fail
    obtain ⟨qr, hqr⟩ : ∃ q, w.heap.size = q := ⟨_, rfl⟩
    have hBr := hBres1_4
    have hFr := hFres1_4
    rw [hqr] at hBr hFr
    have hSt : ∀ w', Turn [w0.heap.size, qr] w4 w' → ∀ oo, w'.cell? ⟨w2.heap.size, oo, none⟩ = w4.cell? ⟨w2.heap.size, oo, none⟩ := fun w' hx oo => hx.cell (by omega) (by simp; omega)
    refine wp_region_plan2 (fun w' => Turn [w0.heap.size, qr] w4 w') 7 (.float 0 (.float 1 (.float 3 (.chain 2 (.chain 4 (.float 5 (.chain 6 (.tail 7)))))))) (by kernel_rfl) (by kernel_rfl) (Turn.of_ext (Ext.refl _).drew _) ?_
    have hC : Turn [w0.heap.size, qr] w4 w4.drew := Turn.of_ext (Ext.refl _).drew _
    have hR := Rdr.hold (w' := w4.drew) hR4
    replace hg := GlB.ext hg (Ext.refl _).drew
    replace hBr := Bx.hold (w' := w4.drew) hBr
    replace hFr : ∀ oo, w4.drew.frozen? ⟨qr, oo, none⟩ = false := fz_hold hFr
    rw [hqr]
    have hsz : w4.heap.size ≤ w4.drew.heap.size := Nat.le_refl _
    generalize w4.drew = wz at *
    repeat' (first
      | with_reducible refine Plan2.alt_step ?_ ?_
      | with_reducible exact Plan2.stop_pre
      | ((with_reducible refine Plan2.float_pre ?_); (refine Plan2.float_step (v := ?_) rfl (by rfl) (fun _ _ _ h => h) (fun w' hSw => ?_) ?_; rotate_left; · (go_simp; try with_reducible rfl)))
      | ((with_reducible refine Plan2.chain_pre ?_)
         refine Plan2.chain_step rfl (fun K hK => ?_)
         go_simp
         first
           | (have ukd0_ := ukd
              clear ukd0_
              refine (pick_any w0.heap.size (w0.heap.size + 1) _ _ (Rdr.hold hR) (by omega) 5 (by omega) (by omega)).mono ?_
              rintro e wn ⟨⟨kk, rfl, lkk, qkk⟩, hR, hy⟩
              have ukk : kk < 5 := by omega
              clear qkk)
           | (refine (pick_any w0.heap.size (w0.heap.size + 1) _ _ (Rdr.hold hR) (by omega) 6 (by omega) (by omega)).mono ?_
              rintro e wn ⟨⟨kd, rfl, lkd, qkd⟩, hR, hy⟩
              have ukd : kd < 6 := by omega
              clear qkd)
           | (have hC : Turn [w0.heap.size, qr] w4 (wz.setCell ⟨qr, 0, none⟩ (.slice (some ⟨b, off, none⟩) L.length c1)) := Turn.hold hC
              with_reducible refine hK.out _ _ hC ?_
              have hy : Turn [qr] wz (wz.setCell ⟨qr, 0, none⟩ (.slice (some ⟨b, off, none⟩) L.length c1)) := Turn.hold (Turn.refl _ _)
              clear hR
              have hBr : Bx (wz.setCell ⟨qr, 0, none⟩ (.slice (some ⟨b, off, none⟩) L.length c1)) qr [.slice (some ⟨b, off, none⟩) L.length c1] := by have := Bx.put hBr (j := 0) (by simp) (.slice (some ⟨b, off, none⟩) L.length c1); simpa using this
              have hFr : ∀ oo, (wz.setCell ⟨qr, 0, none⟩ (.slice (some ⟨b, off, none⟩) L.length c1)).frozen? ⟨qr, oo, none⟩ = false := fz_hold hFr
              generalize (wz.setCell ⟨qr, 0, none⟩ (.slice (some ⟨b, off, none⟩) L.length c1)) = wn at *)
         have hsz := hy.size
         try replace hg := GlB.turn hg hy (fun x hx => by first | (simp at hx; done) | (simp at hx; omega))
         try replace hBr := hy.bx hBr (by omega) (by first | (simp; done) | (simp; omega))
         try replace hFr := fun oo => (hy.frozen (by omega) (by first | (simp; done) | (simp; omega))).trans (hFr oo)
         try replace hC := hC.trans hy (fun x hx => .inl (by simp at hx; simp [hx]))
         try refine hK.out _ _ hC ?_
         clear hK hy
         obtain ⟨wz, hwz⟩ : ∃ wz : World, wz = wn := ⟨_, rfl⟩
         subst hwz
         try clear xr yr fr
         try (have xr := hBr 0 _ rfl; have yr : qr < wz.heap.size := (by omega); have fr := hFr)
         (try simp only [Act.put, List.setIfInBounds_toArray, List.set_cons_zero, List.set_cons_succ])))
    all_goals
      refine Plan2.tail_step ?_
      simp only [List.drop_succ_cons, List.drop_zero]
      clear hSt
      subst hqr
      have hx_ := hC.ext hxW (by simp; omega)
      have hBr2 := hC.bx hBres2_4 (by omega) (by simp; omega)
      have yr2 : w.heap.size + 1 < wz.heap.size := by omega
      have fr2 : ∀ oo, wz.frozen? ⟨w.heap.size + 1, oo, none⟩ = false := fun oo => (hC.frozen (by omega) (by simp; omega)).trans (hFres2_4 oo)
      clear xt0 yt ft
      have xr20 := hBr2 0 _ rfl
      have xr21 := hBr2 1 _ rfl
      have xr22 := hBr2 2 _ rfl
      have xr23 := hBr2 3 _ rfl
      have xr1 := hBr 0 _ rfl
      have yr1 : w.heap.size < wz.heap.size := by omega
      go_wp2
      refine bodyPost_ret (v := .tuple #[.agg #[.slice (some ⟨b, off, none⟩) L.length c1], .agg #[.int .i64 kd, .int .i64 kk, .slice none 0 0, .slice none 0 0]]) (by simp [results, Try.results6, go_sem, xr1, xr20, xr21, xr22, xr23]) rfl ⟨⟨L, ⟨kd, kk, ⟨[]⟩, ⟨[]⟩⟩, _, _, _, _, _, _, rfl, ((GlB.turn (F := [w.heap.size + 1]) (hg) (Turn.hold (Turn.refl _ _)) (fun x hx => by simp at hx; omega)).sl), Sl.nil _ _, Sl.nil _ _, ⟨(show Fits kd by unfold Fits; omega), (show Fits kk by unfold Fits; omega)⟩, hbl, (show Bulk.blk (⟨kd, kk, ⟨[]⟩, ⟨[]⟩⟩ : TabAtom) ≤ 70000 from Nat.zero_le _)⟩, Ext.hold hx_⟩
  · 
    have yt : w2.heap.size < w4.heap.size := by omega
    have xt0 : w4.cell? ⟨w2.heap.size, 0, none⟩ = some (.slice (some ⟨b, off, none⟩) L.length c1) := hBt_4 0 _ rfl
    have ft := hFt_4
    go_upto_region 10 with fail
    obtain ⟨qr, hqr⟩ : ∃ q, w.heap.size = q := ⟨_, rfl⟩
    have hBr := hBres1_4
    have hFr := hFres1_4
    rw [hqr] at hBr hFr
    have hSt : ∀ w', Turn [w0.heap.size, qr] w4 w' → ∀ oo, w'.cell? ⟨w2.heap.size, oo, none⟩ = w4.cell? ⟨w2.heap.size, oo, none⟩ := fun w' hx oo => hx.cell (by omega) (by simp; omega)
    refine wp_region_plan2 (fun w' => Turn [w0.heap.size, qr] w4 w') 8 (.float 0 (.float 2 (.alt 1 (.chain 3 (.float 4 (.alt 5 (.float 6 (.chain 7 (.tail 8))) (.alt 7 (.chain 5 (.float 6 (.tail 8))) (.stop))))) (.alt 3 (.alt 1 (.float 4 (.alt 5 (.float 6 (.chain 7 (.tail 8))) (.alt 7 (.chain 5 (.float 6 (.tail 8))) (.stop)))) (.alt 7 (.chain 1 (.float 4 (.chain 5 (.float 6 (.tail 8))))) (.stop))) (.stop))))) (by kernel_rfl) (by kernel_rfl) (Turn.of_ext (Ext.refl _).drew _) ?_
    have hC : Turn [w0.heap.size, qr] w4 w4.drew := Turn.of_ext (Ext.refl _).drew _
    have hR := Rdr.hold (w' := w4.drew) hR4
    replace hg := GlB.ext hg (Ext.refl _).drew
    replace hBr := Bx.hold (w' := w4.drew) hBr
    replace hFr : ∀ oo, w4.drew.frozen? ⟨qr, oo, none⟩ = false := fz_hold hFr
    rw [hqr]
    have hsz : w4.heap.size ≤ w4.drew.heap.size := Nat.le_refl _
    generalize w4.drew = wz at *
    repeat' (first
      | with_reducible refine Plan2.alt_step ?_ ?_
      | with_reducible exact Plan2.stop_pre
      | ((with_reducible refine Plan2.float_pre ?_); (refine Plan2.float_step (v := ?_) rfl (by rfl) (fun _ _ _ h => h) (fun w' hSw => ?_) ?_; rotate_left; · (go_simp; try with_reducible rfl)))
      | ((with_reducible refine Plan2.chain_pre ?_)
         refine Plan2.chain_step rfl (fun K hK => ?_)
         go_simp
         first
           | (have eV0 := eV
              clear eV0
              with_reducible refine hK.out _ _ hC ?_
              have hy : Turn [] wz wz := Turn.refl _ _
              have hb2 := (show ∀ zz ∈ ([0, 199, 200] : List Int), 0 ≤ zz ∧ zz < 201 by intro zz hzz; simp at hzz; omega) _ (List.getElem_mem (l := [0, 199, 200]) (n := V) hV)
              generalize ([0, 199, 200] : List Int)[V] = kd at *
              have lkd := hb2.1
              have ukd := hb2.2
              clear hb2 hBv z0 z1
              obtain ⟨wn, hwn⟩ : ∃ wn : World, wn = wz := ⟨_, rfl⟩
              subst hwn)
           | (refine (pick_any w0.heap.size (w0.heap.size + 1) _ _ (Rdr.hold hR) (by omega) 3 (by omega) (by omega)).mono ?_
              rintro e wn ⟨⟨iv, rfl, li, qi⟩, hR, hy⟩
              obtain ⟨V, rfl⟩ := Int.eq_ofNat_of_zero_le li
              have hV : V < 3 := by omega
              clear qi
              have z0 : (0 : Int) ≤ (V : Int) := by omega
              have z1 : (V : Int) < 3 := by omega)
           | (have hC : Turn [w0.heap.size, qr] w4 (wz.alloc (.cells #[.int .i64 0, .int .i64 199, .int .i64 200] 3)) := Turn.hold hC
              with_reducible refine hK.out _ _ hC ?_
              have hy : Turn [] wz (wz.alloc (.cells #[.int .i64 0, .int .i64 199, .int .i64 200] 3)) := Turn.hold (Turn.refl _ _)
              try have hR := Rdr.hold (w' := (wz.alloc (.cells #[.int .i64 0, .int .i64 199, .int .i64 200] 3))) hR
              have hz : wz.heap.size < (wz.alloc (.cells #[.int .i64 0, .int .i64 199, .int .i64 200] 3)).heap.size := by simp
              have hBv : Bx (wz.alloc (.cells #[.int .i64 0, .int .i64 199, .int .i64 200] 3)) wz.heap.size [.int .i64 0, .int .i64 199, .int .i64 200] := Bx.new wz #[.int .i64 0, .int .i64 199, .int .i64 200] 3
              have hFv : ∀ oo, (wz.alloc (.cells #[.int .i64 0, .int .i64 199, .int .i64 200] 3)).frozen? ⟨wz.heap.size, oo, none⟩ = false := fz_new wz #[.int .i64 0, .int .i64 199, .int .i64 200] 3 rfl
              generalize (wz.alloc (.cells #[.int .i64 0, .int .i64 199, .int .i64 200] 3)) = wn at *
              obtain ⟨qv, hqv⟩ : ∃ q, wz.heap.size = q := ⟨_, rfl⟩
              rw [hqv] at hBv hFv ⊢)
           | (have hC : Turn [w0.heap.size, qr] w4 (wz.setCell ⟨qr, 0, none⟩ (.slice (some ⟨b, off, none⟩) L.length c1)) := Turn.hold hC
              with_reducible refine hK.out _ _ hC ?_
              have hy : Turn [qr] wz (wz.setCell ⟨qr, 0, none⟩ (.slice (some ⟨b, off, none⟩) L.length c1)) := Turn.hold (Turn.refl _ _)
              clear hR
              have hBr : Bx (wz.setCell ⟨qr, 0, none⟩ (.slice (some ⟨b, off, none⟩) L.length c1)) qr [.slice (some ⟨b, off, none⟩) L.length c1] := by have := Bx.put hBr (j := 0) (by simp) (.slice (some ⟨b, off, none⟩) L.length c1); simpa using this
              have hFr : ∀ oo, (wz.setCell ⟨qr, 0, none⟩ (.slice (some ⟨b, off, none⟩) L.length c1)).frozen? ⟨qr, oo, none⟩ = false := fz_hold hFr
              generalize (wz.setCell ⟨qr, 0, none⟩ (.slice (some ⟨b, off, none⟩) L.length c1)) = wn at *)
         have hsz := hy.size
         try replace hg := GlB.turn hg hy (fun x hx => by first | (simp at hx; done) | (simp at hx; omega))
         try replace hBr := hy.bx hBr (by omega) (by first | (simp; done) | (simp; omega))
         try replace hFr := fun oo => (hy.frozen (by omega) (by first | (simp; done) | (simp; omega))).trans (hFr oo)
         try replace hBv := hy.bx hBv (by omega) (by first | (simp; done) | (simp; omega))
         try replace hFv := fun oo => (hy.frozen (by omega) (by first | (simp; done) | (simp; omega))).trans (hFv oo)
         try replace hC := hC.trans hy (fun x hx => .inl (by simp at hx; simp [hx]))
         try refine hK.out _ _ hC ?_
         clear hK hy
         obtain ⟨wz, hwz⟩ : ∃ wz : World, wz = wn := ⟨_, rfl⟩
         subst hwz
         try clear xr yr fr
         try (have xr := hBr 0 _ rfl; have yr : qr < wz.heap.size := (by omega); have fr := hFr)
         try clear eV yv
         try (have hBa : Bx wz qv (List.map (Value.int .i64) [0, 199, 200]) := hBv; have eV := hBa.at_ (v := V) hV; have yv : qv < wz.heap.size := (by omega); clear hBa)
         (try simp only [Act.put, List.setIfInBounds_toArray, List.set_cons_zero, List.set_cons_succ])))
    all_goals
      refine Plan2.tail_step ?_
      simp only [List.drop_succ_cons, List.drop_zero]
      clear hSt
      subst hqr
      have hx_ := hC.ext hxW (by simp; omega)
      have hBr2 := hC.bx hBres2_4 (by omega) (by simp; omega)
      have yr2 : w.heap.size + 1 < wz.heap.size := by omega
      have fr2 : ∀ oo, wz.frozen? ⟨w.heap.size + 1, oo, none⟩ = false := fun oo => (hC.frozen (by omega) (by simp; omega)).trans (hFres2_4 oo)
      clear xt0 yt ft
      have xr20 := hBr2 0 _ rfl
      have xr21 := hBr2 1 _ rfl
      have xr22 := hBr2 2 _ rfl
      have xr23 := hBr2 3 _ rfl
      have xr1 := hBr 0 _ rfl
      have yr1 : w.heap.size < wz.heap.size := by omega
      go_wp2
      refine bodyPost_ret (v := .tuple #[.agg #[.slice (some ⟨b, off, none⟩) L.length c1], .agg #[.int .i64 2, .int .i64 kd, .slice none 0 0, .slice none 0 0]]) (by simp [results, Try.results6, go_sem, xr1, xr20, xr21, xr22, xr23]) rfl ⟨⟨L, ⟨2, kd, ⟨[]⟩, ⟨[]⟩⟩, _, _, _, _, _, _, rfl, ((GlB.turn (F := [w.heap.size + 1]) (hg) (Turn.hold (Turn.refl _ _)) (fun x hx => by simp at hx; omega)).sl), Sl.nil _ _, Sl.nil _ _, ⟨(show Fits 2 by unfold Fits; omega), (show Fits kd by unfold Fits; omega)⟩, hbl, (show Bulk.blk (⟨2, kd, ⟨[]⟩, ⟨[]⟩⟩ : TabAtom) ≤ 70000 from Nat.zero_le _)⟩, Ext.hold hx_⟩
  · 
    have q0 : (v == 0) = false := by simp; omega
    have q1 : (v == 1) = false := by simp; omega
    have q2 : (v == 2) = false := by simp; omega
    have yt : w2.heap.size < w4.heap.size := by omega
    have xt0 : w4.cell? ⟨w2.heap.size, 0, none⟩ = some (.slice (some ⟨b, off, none⟩) L.length c1) := hBt_4 0 _ rfl
    have ft := hFt_4
    go_upto_region 11 with fail
    obtain ⟨qr, hqr⟩ : ∃ q, w.heap.size = q := ⟨_, rfl⟩
    have hBr := hBres1_4
    have hFr := hFres1_4
    rw [hqr] at hBr hFr
    have hSt : ∀ w', Turn [w0.heap.size, qr] w4 w' → ∀ oo, w'.cell? ⟨w2.heap.size, oo, none⟩ = w4.cell? ⟨w2.heap.size, oo, none⟩ := fun w' hx oo => hx.cell (by omega) (by simp; omega)
    refine wp_region_plan2 (fun w' => Turn [w0.heap.size, qr] w4 w') 14 (.float 0 (.float 1 (.float 3 (.float 4 (.float 5 (.float 9 (.float 10 (.chain 2 (.chain 6 (.float 7 (.chain 8 (.chain 11 (.float 12 (.chain 13 (.tail 14))))))))))))))) (by kernel_rfl) (by kernel_rfl) (Turn.of_ext (Ext.refl _).drew _) ?_
    have hC : Turn [w0.heap.size, qr] w4 w4.drew := Turn.of_ext (Ext.refl _).drew _
    have hR := Rdr.hold (w' := w4.drew) hR4
    replace hg := GlB.ext hg (Ext.refl _).drew
    replace hBr := Bx.hold (w' := w4.drew) hBr
    replace hFr : ∀ oo, w4.drew.frozen? ⟨qr, oo, none⟩ = false := fz_hold hFr
    rw [hqr]
    have hsz : w4.heap.size ≤ w4.drew.heap.size := Nat.le_refl _
    generalize w4.drew = wz at *
    repeat' (first
      | with_reducible refine Plan2.alt_step ?_ ?_
      | with_reducible exact Plan2.stop_pre
      | ((with_reducible refine Plan2.float_pre ?_); (refine Plan2.float_step (v := ?_) rfl (by rfl) (fun _ _ _ h => h) (fun w' hSw => ?_) ?_; rotate_left; · (go_simp; try with_reducible rfl)))
      | ((with_reducible refine Plan2.chain_pre ?_)
         refine Plan2.chain_step rfl (fun K hK => ?_)
         go_simp
         first
           | (have hgp0_ := hgp
              clear hgp0_
              refine (l21Poly_any w0.heap.size (w0.heap.size + 1) _ _ (Rdr.hold hR) (by omega) (L.length : Int) (by omega) (by omega)).mono ?_
              rintro e wn ⟨⟨q, A6, c6, rfl, hgq, hkq, -⟩, hR, hy⟩
              replace hgq := (GlB.of_gl hgq).down (show wz.heap.size ≤ _ from (by first | omega | (simp; done) | (simp; omega)))
              have hbq := ok_blk hkq)
           | (have uj0_ := uj
              clear uj0_
              refine (l21Poly_any w0.heap.size (w0.heap.size + 1) _ _ (Rdr.hold hR) (by omega) ((L.length : Int) + j) (by omega) (by omega)).mono ?_
              rintro e wn ⟨⟨p, A5, c5, rfl, hgp, hkp, -⟩, hR, hy⟩
              replace hgp := (GlB.of_gl hgp).down (show wz.heap.size ≤ _ from (by first | omega | (simp; done) | (simp; omega)))
              have hbp := ok_blk hkp)
           | (have ukk0_ := ukk
              clear ukk0_
              refine (pick_any w0.heap.size (w0.heap.size + 1) _ _ (Rdr.hold hR) (by omega) 2 (by omega) (by omega)).mono ?_
              rintro e wn ⟨⟨j, rfl, lj, qj⟩, hR, hy⟩
              have uj : j < 2 := by omega
              clear qj
              have zw : IntKind.i64.wrap ((L.length : Int) + j) = (L.length : Int) + j := by rw [IntKind.wrap_i64]; omega)
           | (refine (pick_any w0.heap.size (w0.heap.size + 1) _ _ (Rdr.hold hR) (by omega) 7 (by omega) (by omega)).mono ?_
              rintro e wn ⟨⟨kk, rfl, lkk, qkk⟩, hR, hy⟩
              have ukk : kk < 7 := by omega
              clear qkk)
           | (have hC : Turn [w0.heap.size, qr] w4 (wz.setCell ⟨qr, 0, none⟩ (.slice (some ⟨b, off, none⟩) L.length c1)) := Turn.hold hC
              with_reducible refine hK.out _ _ hC ?_
              have hy : Turn [qr] wz (wz.setCell ⟨qr, 0, none⟩ (.slice (some ⟨b, off, none⟩) L.length c1)) := Turn.hold (Turn.refl _ _)
              clear hR
              have hBr : Bx (wz.setCell ⟨qr, 0, none⟩ (.slice (some ⟨b, off, none⟩) L.length c1)) qr [.slice (some ⟨b, off, none⟩) L.length c1] := by have := Bx.put hBr (j := 0) (by simp) (.slice (some ⟨b, off, none⟩) L.length c1); simpa using this
              have hFr : ∀ oo, (wz.setCell ⟨qr, 0, none⟩ (.slice (some ⟨b, off, none⟩) L.length c1)).frozen? ⟨qr, oo, none⟩ = false := fz_hold hFr
              generalize (wz.setCell ⟨qr, 0, none⟩ (.slice (some ⟨b, off, none⟩) L.length c1)) = wn at *)
         have hsz := hy.size
         try replace hg := GlB.turn hg hy (fun x hx => by first | (simp at hx; done) | (simp at hx; omega))
         try replace hgp := GlB.turn hgp hy (fun x hx => by first | (simp at hx; done) | (simp at hx; omega))
         try replace hgq := GlB.turn hgq hy (fun x hx => by first | (simp at hx; done) | (simp at hx; omega))
         try replace hBr := hy.bx hBr (by omega) (by first | (simp; done) | (simp; omega))
         try replace hFr := fun oo => (hy.frozen (by omega) (by first | (simp; done) | (simp; omega))).trans (hFr oo)
         try replace hC := hC.trans hy (fun x hx => .inl (by simp at hx; simp [hx]))
         try refine hK.out _ _ hC ?_
         clear hK hy
         obtain ⟨wz, hwz⟩ : ∃ wz : World, wz = wn := ⟨_, rfl⟩
         subst hwz
         try clear xr yr fr
         try (have xr := hBr 0 _ rfl; have yr : qr < wz.heap.size := (by omega); have fr := hFr)
         (try simp only [Act.put, List.setIfInBounds_toArray, List.set_cons_zero, List.set_cons_succ])))
    all_goals
      refine Plan2.tail_step ?_
      simp only [List.drop_succ_cons, List.drop_zero]
      clear hSt
      subst hqr
      have hx_ := hC.ext hxW (by simp; omega)
      have hBr2 := hC.bx hBres2_4 (by omega) (by simp; omega)
      have yr2 : w.heap.size + 1 < wz.heap.size := by omega
      have fr2 : ∀ oo, wz.frozen? ⟨w.heap.size + 1, oo, none⟩ = false := fun oo => (hC.frozen (by omega) (by simp; omega)).trans (hFres2_4 oo)
      clear xt0 yt ft
      have xr20 := hBr2 0 _ rfl
      have xr21 := hBr2 1 _ rfl
      have xr22 := hBr2 2 _ rfl
      have xr23 := hBr2 3 _ rfl
      have xr1 := hBr 0 _ rfl
      have yr1 : w.heap.size < wz.heap.size := by omega
      go_wp2
      refine bodyPost_ret (v := .tuple #[.agg #[.slice (some ⟨b, off, none⟩) L.length c1], .agg #[.int .i64 4, .int .i64 kk, .slice A5 p.monos.length c5, .slice A6 q.monos.length c6]]) (by simp [results, Try.results6, go_sem, xr1, xr20, xr21, xr22, xr23]) rfl ⟨⟨L, ⟨4, kk, p, q⟩, _, _, _, _, _, _, rfl, ((GlB.turn (F := [w.heap.size + 1]) (hg) (Turn.hold (Turn.refl _ _)) (fun x hx => by simp at hx; omega)).sl), ((GlB.turn (F := [w.heap.size + 1]) (hgp) (Turn.hold (Turn.refl _ _)) (fun x hx => by simp at hx; omega)).sl), ((GlB.turn (F := [w.heap.size + 1]) (hgq) (Turn.hold (Turn.refl _ _)) (fun x hx => by simp at hx; omega)).sl), ⟨(show Fits 4 by unfold Fits; omega), (show Fits kk by unfold Fits; omega)⟩, hbl, (show Bulk.blk p.monos + Bulk.blk q.monos ≤ 70000 by omega)⟩, Ext.hold hx_⟩

end Go.Proofs.Ytmbclopkopfngaa
