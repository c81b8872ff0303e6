/-
  DrawTV
-/
import Derived.Test.YtmbclopkopfngaaQDrawTO
import Derived.Test.YtmbclopkopfngaaQPick
import Derived.Test.YtmbclopkopfngaaQNewP
import Derived.Test.YtmbclopkopfngaaQByteLib
import Derived.Deep.DeepCutAuto
namespace Go.Proofs.Ytmbclopkopfngaa
open Go.RowKit

set_option linter.unusedVariables false
set_option linter.unusedSimpArgs false
set_option maxRecDepth 100000

set_option maxHeartbeats 4000000 in
theorem drawTabVals_any (code : List UInt8) (vcode : Value) (w : World) (hcode : Sl w (Old w) vcode code)  :
    Calls Try.prog 12 #[vcode] w fun e w' => (∃ (L : List TabAtom) (l0 l1 l2 : List Int) (A1 A2 A3 A4 : Option Addr) (c1 c2 c3 c4 : Nat), e = .returned (.tuple #[.agg #[.slice A1 L.length c1], .slice A2 l0.length c2, .slice A3 l1.length c3, .slice A4 l2.length c4]) ∧ Sl w' (Old w') (.slice A1 L.length c1) L ∧ Sl w' (Old w') (.slice A2 l0.length c2) l0 ∧ Sl w' (Old w') (.slice A3 l1.length c3) l1 ∧ Sl w' (Old w') (.slice A4 l2.length c4) l2 ∧ Bulk.blk L ≤ 70000 ∧ l0.length ≤ 5 ∧ (∀ x, x ∈ l0 → 0 ≤ x ∧ x ≤ 65536) ∧ (∀ x, x ∈ l1 → 0 ≤ x ∧ x < 65536) ∧ (∀ x, x ∈ l2 → 0 ≤ x ∧ x < 65536)) ∧ Ext w w' := by
  obtain ⟨Acode, ccode, rfl, hlcode, hmcode⟩ := hcode.form
  go_enter Try.func12, Try.ntmps12
  go_upto_region 1 with fail
  have he0 : Ext w (w.alloc (Obj.cells #[.slice none 0 0] 25)) := (Ext.auto)
  have hs0 : w.heap.size + 1 ≤ ((w.alloc (Obj.cells #[.slice none 0 0] 25))).heap.size := by simp
  have hq0 := hide (show ((w.alloc (Obj.cells #[.slice none 0 0] 25))).heap.size = w.heap.size + 1 by simp)
  have hBres_0 : Bx (w.alloc (Obj.cells #[.slice none 0 0] 25)) (w.heap.size) [.slice none 0 0] := (by have := (Bx.new w #[.slice none 0 0] 25); simpa using this)
  have hFres_0 : ∀ oo, ((w.alloc (Obj.cells #[.slice none 0 0] 25))).frozen? ⟨w.heap.size, oo, none⟩ = false := fun oo => by simp
  generalize (w.alloc (Obj.cells #[.slice none 0 0] 25)) = w0 at *
  go_wp2_with fail
  refine (l20Open_any code _ _ (hcode.ext he0)).mono ?_
  rintro e w1 ⟨rfl, hR1, hx1⟩
  have hs1 := hx1.size
  have hs1_ := hR1.lt
  have hT1 : Turn [w0.heap.size] w w1 := Turn.of_ext (he0.trans hx1) _
  have hBres_1 := hx1.bx hBres_0 (by omega)
  have hFres_1 : ∀ oo, w1.frozen? ⟨w.heap.size, oo, none⟩ = false := fun oo => (hx1.frozen (by omega)).trans (hFres_0 oo)
  clear hBres_0 hFres_0
  obtain ⟨i0a, hi_, hz0, hz1, hz2⟩ := info_parts infInt
  have HIa := hide hi_
  have HZ0a := hide hz0
  have HZ1a := hide hz1
  have HZ2a := hide hz2
  clear hi_ hz0 hz1 hz2
  go_wp2_with fail
  refine (l21TabOr_any w0.heap.size (w0.heap.size + 1) _ _ (Rdr.hold hR1) (by omega) 12 (by omega) (by omega)).mono ?_
  rintro e w2 ⟨⟨L, A1, c1, rfl, hg, h0, h13, hbl⟩, hR2, hy⟩
  have hs2 := hy.size
  try simp at hs2
  have hT2 : Turn [w0.heap.size] w w2 := (Turn.hold hT1).trans hy
  have hBres_2 : Bx w2 (w.heap.size) [.slice none 0 0] := hy.bx (Bx.hold hBres_1) (by first | omega | (simp; done) | (simp; omega)) (by simp; omega)
  have hFres_2 : ∀ oo, w2.frozen? ⟨w.heap.size, oo, none⟩ = false := fun oo => (hy.frozen (by first | omega | (simp; done) | (simp; omega)) (by simp; omega)).trans ((fz_hold hFres_1) oo)
  clear hBres_1 hFres_1
  clear hy
  replace hg := (GlB.of_gl hg).down (show w1.heap.size ≤ _ from (by first | omega | (simp; done) | (simp; omega)))
  obtain ⟨b, off, -, -, rfl, -⟩ := at_TabAtom hg.sl h0
  go_upto_region 3 with fail
  have hR3 := Rdr.hold (w' := (w2.alloc (.cells #[.slice (some ⟨b, off, none⟩) L.length c1] 25))) hR2
  have hT3 : Turn [w0.heap.size] w (w2.alloc (.cells #[.slice (some ⟨b, off, none⟩) L.length c1] 25)) := Turn.hold hT2
  have hs3 : w2.heap.size + 1 ≤ ((w2.alloc (.cells #[.slice (some ⟨b, off, none⟩) L.length c1] 25))).heap.size := by simp
  have hx3 : Ext w2 (w2.alloc (.cells #[.slice (some ⟨b, off, none⟩) L.length c1] 25)) := Ext.auto
  have hBt_3 : Bx (w2.alloc (.cells #[.slice (some ⟨b, off, none⟩) L.length c1] 25)) (w2.heap.size) [.slice (some ⟨b, off, none⟩) L.length c1] := (show Bx (w2.alloc (.cells #[.slice (some ⟨b, off, none⟩) L.length c1] 25)) w2.heap.size [.slice (some ⟨b, off, none⟩) L.length c1] from Bx.new w2 #[.slice (some ⟨b, off, none⟩) L.length c1] 25)
  have hFt_3 : ∀ oo, (w2.alloc (.cells #[.slice (some ⟨b, off, none⟩) L.length c1] 25)).frozen? ⟨w2.heap.size, oo, none⟩ = false := (show ∀ oo, (w2.alloc (.cells #[.slice (some ⟨b, off, none⟩) L.length c1] 25)).frozen? ⟨w2.heap.size, oo, none⟩ = false from fz_new w2 #[.slice (some ⟨b, off, none⟩) L.length c1] 25 rfl)
  have hBres_3 : Bx (w2.alloc (.cells #[.slice (some ⟨b, off, none⟩) L.length c1] 25)) (w.heap.size) [.slice none 0 0] := Bx.hold hBres_2
  have hFres_3 : ∀ oo, (w2.alloc (.cells #[.slice (some ⟨b, off, none⟩) L.length c1] 25)).frozen? ⟨w.heap.size, oo, none⟩ = false := fz_hold hFres_2
  clear hBres_2 hFres_2
  replace hg := GlB.ext hg hx3
  generalize (w2.alloc (.cells #[.slice (some ⟨b, off, none⟩) L.length c1] 25)) = w3 at *
  go_wp2_with fail
  refine (pick_any w0.heap.size (w0.heap.size + 1) _ _ (Rdr.hold hR3) (by omega) 2 (by omega) (by omega)).mono ?_
  rintro e w4 ⟨⟨j, rfl, lj, qj⟩, hR4, hy⟩
  have uj : j < 2 := by omega
  clear qj
  have hs4 := hy.size
  try simp at hs4
  have hT4 : Turn [w0.heap.size] w w4 := (Turn.hold hT3).trans hy
  have hBres_4 : Bx w4 (w.heap.size) [.slice none 0 0] := hy.bx (Bx.hold hBres_3) (by first | omega | (simp; done) | (simp; omega)) (by simp; omega)
  have hFres_4 : ∀ oo, w4.frozen? ⟨w.heap.size, oo, none⟩ = false := fun oo => (hy.frozen (by first | omega | (simp; done) | (simp; omega)) (by simp; omega)).trans ((fz_hold hFres_3) oo)
  have hBt_4 : Bx w4 (w2.heap.size) [.slice (some ⟨b, off, none⟩) L.length c1] := hy.bx (Bx.hold hBt_3) (by first | omega | (simp; done) | (simp; omega)) (by simp; omega)
  have hFt_4 : ∀ oo, w4.frozen? ⟨w2.heap.size, oo, none⟩ = false := fun oo => (hy.frozen (by first | omega | (simp; done) | (simp; omega)) (by simp; omega)).trans ((fz_hold hFt_3) oo)
  clear hBres_3 hFres_3 hBt_3 hFt_3
  replace hg := GlB.turn (GlB.ext hg Ext.auto) hy (fun x hx => by simp at hx; omega)
  clear hy
  have zw : IntKind.i64.wrap (3 + j) = 3 + j := by rw [IntKind.wrap_i64]; omega
  go_wp2_with fail
  refine (l20Words_any w0.heap.size (w0.heap.size + 1) _ _ (Rdr.hold hR4) (by omega) (3 + j) (by omega) (by omega)).mono ?_
  rintro e w5 ⟨⟨v, rfl, l, hG, hln, hlw⟩, hR5, hy⟩
  have hs5 := hy.size
  try simp at hs5
  have hT5 : Turn [w0.heap.size] w w5 := (Turn.hold hT4).trans hy
  have hBres_5 : Bx w5 (w.heap.size) [.slice none 0 0] := hy.bx (Bx.hold hBres_4) (by first | omega | (simp; done) | (simp; omega)) (by simp; omega)
  have hFres_5 : ∀ oo, w5.frozen? ⟨w.heap.size, oo, none⟩ = false := fun oo => (hy.frozen (by first | omega | (simp; done) | (simp; omega)) (by simp; omega)).trans ((fz_hold hFres_4) oo)
  have hBt_5 : Bx w5 (w2.heap.size) [.slice (some ⟨b, off, none⟩) L.length c1] := hy.bx (Bx.hold hBt_4) (by first | omega | (simp; done) | (simp; omega)) (by simp; omega)
  have hFt_5 : ∀ oo, w5.frozen? ⟨w2.heap.size, oo, none⟩ = false := fun oo => (hy.frozen (by first | omega | (simp; done) | (simp; omega)) (by simp; omega)).trans ((fz_hold hFt_4) oo)
  clear hBres_4 hFres_4 hBt_4 hFt_4
  replace hg := GlB.turn (GlB.ext hg Ext.auto) hy (fun x hx => by simp at hx; omega)
  clear hy
  have hG0 := hG.lt
  replace hG := Gro.down hG (show w4.heap.size ≤ _ from (by first | omega | (simp; done) | (simp; omega)))
  obtain ⟨A2, c2, rfl, -, -⟩ := hG.form
  have hl5 : l.length ≤ 4 := by omega
  have HLW := hide hlw
  clear hlw hln zw hG0
  go_wp2_with fail
  refine (odd_any w0.heap.size (w0.heap.size + 1) _ _ (Rdr.hold hR5) (by omega) 12 (by omega) (by omega)).mono ?_
  rintro e w6 ⟨⟨bt, rfl⟩, hR6, hy⟩
  have hs6 := hy.size
  try simp at hs6
  have hT6 : Turn [w0.heap.size] w w6 := (Turn.hold hT5).trans hy
  have hBres_6 : Bx w6 (w.heap.size) [.slice none 0 0] := hy.bx (Bx.hold hBres_5) (by first | omega | (simp; done) | (simp; omega)) (by simp; omega)
  have hFres_6 : ∀ oo, w6.frozen? ⟨w.heap.size, oo, none⟩ = false := fun oo => (hy.frozen (by first | omega | (simp; done) | (simp; omega)) (by simp; omega)).trans ((fz_hold hFres_5) oo)
  have hBt_6 : Bx w6 (w2.heap.size) [.slice (some ⟨b, off, none⟩) L.length c1] := hy.bx (Bx.hold hBt_5) (by first | omega | (simp; done) | (simp; omega)) (by simp; omega)
  have hFt_6 : ∀ oo, w6.frozen? ⟨w2.heap.size, oo, none⟩ = false := fun oo => (hy.frozen (by first | omega | (simp; done) | (simp; omega)) (by simp; omega)).trans ((fz_hold hFt_5) oo)
  clear hBres_5 hFres_5 hBt_5 hFt_5
  replace hg := GlB.turn (GlB.ext hg Ext.auto) hy (fun x hx => by simp at hx; omega)
  replace hG := Gro.turn (Gro.ext hG Ext.auto) hy (fun q hq => by have := (hG.lt q hq).1; simp; omega)
  clear hy
  cases bt
  · 
    have hrg := (GlB.of_gl (GlO.of_gro hG)).down (Nat.le_refl _)
    clear hG
    have hxW : Ext w w6 := Turn.ext hT6 (Ext.refl _) (by simp; omega)
    have yt : w2.heap.size < w6.heap.size := by omega
    have xt0 : w6.cell? ⟨w2.heap.size, 0, none⟩ = some (.slice (some ⟨b, off, none⟩) L.length c1) := hBt_6 0 _ rfl
    have ft := hFt_6
    go_upto_region 6 with fail
    obtain ⟨qr, hqr⟩ : ∃ q, w.heap.size = q := ⟨_, rfl⟩
    have hBr := hBres_6
    have hFr := hFres_6
    rw [hqr] at hBr hFr
    have hSt : ∀ w', Turn [w0.heap.size, qr] w6 w' → ∀ oo, w'.cell? ⟨w2.heap.size, oo, none⟩ = w6.cell? ⟨w2.heap.size, oo, none⟩ := fun w' hx oo => hx.cell (by omega) (by simp; omega)
    refine wp_region_plan2 (fun w' => Turn [w0.heap.size, qr] w6 w') 11 (.float 0 (.float 1 (.float 2 (.float 3 (.float 6 (.float 7 (.chain 4 (.chain 5 (.chain 8 (.chain 9 (.chain 10 (.tail 11)))))))))))) (by kernel_rfl) (by kernel_rfl) (Turn.of_ext (Ext.refl _).drew _) ?_
    have hC : Turn [w0.heap.size, qr] w6 w6.drew := Turn.of_ext (Ext.refl _).drew _
    have hR := Rdr.hold (w' := w6.drew) hR6
    replace hg := GlB.ext hg (Ext.refl _).drew
    replace hrg := GlB.ext hrg (Ext.refl _).drew
    replace hBr := Bx.hold (w' := w6.drew) hBr
    replace hFr : ∀ oo, w6.drew.frozen? ⟨qr, oo, none⟩ = false := fz_hold hFr
    rw [hqr]
    have hsz : w6.heap.size ≤ w6.drew.heap.size := Nat.le_refl _
    generalize w6.drew = wz at *
    repeat' (first
      | with_reducible refine Plan2.alt_step ?_ ?_
      | with_reducible exact Plan2.stop_pre
      | ((with_reducible refine Plan2.float_pre ?_); (refine Plan2.float_step (v := ?_) rfl (by rfl) (fun _ _ _ h => h) (fun w' hSw => ?_) ?_; rotate_left; · (go_simp; try with_reducible rfl)))
      | ((with_reducible refine Plan2.chain_pre ?_)
         refine Plan2.chain_step rfl (fun K hK => ?_)
         go_simp
         first
           | (have uj20_ := uj2
              clear uj20_
              refine (l20Words_any w0.heap.size (w0.heap.size + 1) _ _ (Rdr.hold hR) (by omega) j2 (by omega) (by omega)).mono ?_
              rintro e wn ⟨⟨vl2, rfl, l2, hGl2, hnl2, hwl2⟩, hR, hy⟩
              obtain ⟨A6, c6, rfl, -, -⟩ := hGl2.form
              have hl2 := (GlB.of_gl (GlO.of_gro hGl2)).down (show wz.heap.size ≤ _ from (by first | omega | (simp; done) | (simp; omega)))
              have Hl2 := hide hwl2
              clear hGl2 hwl2 hnl2)
           | (have uj10_ := uj1
              clear uj10_
              refine (l20Words_any w0.heap.size (w0.heap.size + 1) _ _ (Rdr.hold hR) (by omega) j1 (by omega) (by omega)).mono ?_
              rintro e wn ⟨⟨vl1, rfl, l1, hGl1, hnl1, hwl1⟩, hR, hy⟩
              obtain ⟨A5, c5, rfl, -, -⟩ := hGl1.form
              have hl1 := (GlB.of_gl (GlO.of_gro hGl1)).down (show wz.heap.size ≤ _ from (by first | omega | (simp; done) | (simp; omega)))
              have Hl1 := hide hwl1
              clear hGl1 hwl1 hnl1)
           | (have uj10_ := uj1
              clear uj10_
              refine (pick_any w0.heap.size (w0.heap.size + 1) _ _ (Rdr.hold hR) (by omega) 4 (by omega) (by omega)).mono ?_
              rintro e wn ⟨⟨j2, rfl, lj2, qj2⟩, hR, hy⟩
              have uj2 : j2 < 4 := by omega
              clear qj2)
           | (refine (pick_any w0.heap.size (w0.heap.size + 1) _ _ (Rdr.hold hR) (by omega) 4 (by omega) (by omega)).mono ?_
              rintro e wn ⟨⟨j1, rfl, lj1, qj1⟩, hR, hy⟩
              have uj1 : j1 < 4 := by omega
              clear qj1)
           | (have hC : Turn [w0.heap.size, qr] w6 (wz.setCell ⟨qr, 0, none⟩ (.slice (some ⟨b, off, none⟩) L.length c1)) := Turn.hold hC
              with_reducible refine hK.out _ _ hC ?_
              have hy : Turn [qr] wz (wz.setCell ⟨qr, 0, none⟩ (.slice (some ⟨b, off, none⟩) L.length c1)) := Turn.hold (Turn.refl _ _)
              clear hR
              have hBr : Bx (wz.setCell ⟨qr, 0, none⟩ (.slice (some ⟨b, off, none⟩) L.length c1)) qr [.slice (some ⟨b, off, none⟩) L.length c1] := by have := Bx.put hBr (j := 0) (by simp) (.slice (some ⟨b, off, none⟩) L.length c1); simpa using this
              have hFr : ∀ oo, (wz.setCell ⟨qr, 0, none⟩ (.slice (some ⟨b, off, none⟩) L.length c1)).frozen? ⟨qr, oo, none⟩ = false := fz_hold hFr
              generalize (wz.setCell ⟨qr, 0, none⟩ (.slice (some ⟨b, off, none⟩) L.length c1)) = wn at *)
         have hsz := hy.size
         try replace hg := GlB.turn hg hy (fun x hx => by first | (simp at hx; done) | (simp at hx; omega))
         try replace hrg := GlB.turn hrg hy (fun x hx => by first | (simp at hx; done) | (simp at hx; omega))
         try replace hl1 := GlB.turn hl1 hy (fun x hx => by first | (simp at hx; done) | (simp at hx; omega))
         try replace hl2 := GlB.turn hl2 hy (fun x hx => by first | (simp at hx; done) | (simp at hx; omega))
         try replace hBr := hy.bx hBr (by omega) (by first | (simp; done) | (simp; omega))
         try replace hFr := fun oo => (hy.frozen (by omega) (by first | (simp; done) | (simp; omega))).trans (hFr oo)
         try replace hC := hC.trans hy (fun x hx => .inl (by simp at hx; simp [hx]))
         try refine hK.out _ _ hC ?_
         clear hK hy
         obtain ⟨wz, hwz⟩ : ∃ wz : World, wz = wn := ⟨_, rfl⟩
         subst hwz
         try clear xr yr fr
         try (have xr := hBr 0 _ rfl; have yr : qr < wz.heap.size := (by omega); have fr := hFr)
         (try simp only [Act.put, List.setIfInBounds_toArray, List.set_cons_zero, List.set_cons_succ])))
    all_goals
      refine Plan2.tail_step ?_
      simp only [List.drop_succ_cons, List.drop_zero]
      clear hSt
      subst hqr
      have hx_ := hC.ext hxW (by simp; omega)
      clear xt0 yt ft
      have xr1 := hBr 0 _ rfl
      have yr1 : w.heap.size < wz.heap.size := by omega
      go_wp2
      refine bodyPost_ret (v := .tuple #[.agg #[.slice (some ⟨b, off, none⟩) L.length c1], .slice A2 l.length c2, .slice A5 l1.length c5, .slice A6 l2.length c6]) (by simp [results, Try.results12, go_sem, xr1]) rfl ⟨⟨L, l, l1, l2, _, _, _, _, _, _, _, _, rfl, hg.sl, hrg.sl, hl1.sl, hl2.sl, hbl, by omega, fun x hx => by have := HLW.out x hx; omega, Hl1.out, Hl2.out⟩, Ext.hold hx_⟩
  · 
    have hGl := hG.lt
    obtain ⟨wa, Fs, xs, h00, hA⟩ := id hG
    have hAf := hA.flat
    have hup := hg.2
    go_upto_region 6 with (
        at_builtin
        refine wpList_append_push2 (α := Int) (w0 := wa) (wr := w6) rfl _ _ 39 rfl i0a _ 8 Try.underlying39 HIa.out HZ0a.out HZ1a.out HZ2a.out rfl (by decide) hA.app rfl (65536 : Int) #[.int .i64 65536] 3 [] _ rfl Ext.auto ⟨⟨rfl, (show Fits 65536 by unfold Fits; omega)⟩, rfl⟩ (Fr.nil _ _) (by repeat (first | (exact fun _ h => absurd h (List.not_mem_nil)) | (refine List.forall_mem_cons.2 ⟨rfl, ?_⟩))) (by unfold maxLen; omega) (by omega) ?_
        intro v' w9 xs' hA9 hg9 hb9
        have hG9 := Gro.pushG (lo := w4.heap.size) h00 (fun q hq => (hGl q hq).1) (by simp; omega) hAf hA9 hb9
        have hT9 := Turn.of_grown (show Ext w6 _ from Ext.auto) hg9
        obtain ⟨A9, c9, rfl, -, -⟩ := hG9.form)
    skip
    have hmem : ∀ q, q ∈ (Value.ownBlock (.slice A2 l.length c2)).toList → w4.heap.size ≤ q := fun q hq => (hGl q (by simpa using hq)).1
    have hs7 := hT9.size
    have hR7 := hR6.turn hT9 (fun q hq => by have := hmem q hq; omega)
    have hT7 : Turn [w0.heap.size] w w9 := hT6.trans hT9 (fun q hq => .inr (by have := hmem q hq; omega))
    replace hg := GlB.turn hg hT9 (fun q hq => by have := hmem q hq; omega)
    have hrg := (GlB.of_gl (GlO.of_gro hG9)).down (Nat.le_refl _)
    have hBres_7 := hT9.bx hBres_6 (by omega) (fun hm => by have := hmem _ hm; omega)
    have hFres_7 : ∀ oo, w9.frozen? ⟨w.heap.size, oo, none⟩ = false := fun oo => (hT9.frozen (by omega) (fun hm => by have := hmem _ hm; omega)).trans (hFres_6 oo)
    have hBt_7 := hT9.bx hBt_6 (by omega) (fun hm => by have := hmem _ hm; omega)
    have hFt_7 : ∀ oo, w9.frozen? ⟨w2.heap.size, oo, none⟩ = false := fun oo => (hT9.frozen (by omega) (fun hm => by have := hmem _ hm; omega)).trans (hFt_6 oo)
    clear hG hA hAf hA9 hg9 hb9 hG9 hT9 hmem hBres_6 hFres_6 hBt_6 hFt_6
    obtain ⟨w7, hw9⟩ : ∃ w7 : World, w7 = w9 := ⟨_, rfl⟩
    subst hw9
    have hxW : Ext w w7 := Turn.ext hT7 (Ext.refl _) (by simp; omega)
    have yt : w2.heap.size < w7.heap.size := by omega
    have xt0 : w7.cell? ⟨w2.heap.size, 0, none⟩ = some (.slice (some ⟨b, off, none⟩) L.length c1) := hBt_7 0 _ rfl
    have ft := hFt_7
    go_upto_region 6 with fail
    obtain ⟨qr, hqr⟩ : ∃ q, w.heap.size = q := ⟨_, rfl⟩
    have hBr := hBres_7
    have hFr := hFres_7
    rw [hqr] at hBr hFr
    have hSt : ∀ w', Turn [w0.heap.size, qr] w7 w' → ∀ oo, w'.cell? ⟨w2.heap.size, oo, none⟩ = w7.cell? ⟨w2.heap.size, oo, none⟩ := fun w' hx oo => hx.cell (by omega) (by simp; omega)
    refine wp_region_plan2 (fun w' => Turn [w0.heap.size, qr] w7 w') 11 (.float 0 (.float 1 (.float 2 (.float 3 (.float 6 (.float 7 (.chain 4 (.chain 5 (.chain 8 (.chain 9 (.chain 10 (.tail 11)))))))))))) (by kernel_rfl) (by kernel_rfl) (Turn.of_ext (Ext.refl _).drew _) ?_
    have hC : Turn [w0.heap.size, qr] w7 w7.drew := Turn.of_ext (Ext.refl _).drew _
    have hR := Rdr.hold (w' := w7.drew) hR7
    replace hg := GlB.ext hg (Ext.refl _).drew
    replace hrg := GlB.ext hrg (Ext.refl _).drew
    replace hBr := Bx.hold (w' := w7.drew) hBr
    replace hFr : ∀ oo, w7.drew.frozen? ⟨qr, oo, none⟩ = false := fz_hold hFr
    rw [hqr]
    have hsz : w7.heap.size ≤ w7.drew.heap.size := Nat.le_refl _
    generalize w7.drew = wz at *
    repeat' (first
      | with_reducible refine Plan2.alt_step ?_ ?_
      | with_reducible exact Plan2.stop_pre
      | ((with_reducible refine Plan2.float_pre ?_); (refine Plan2.float_step (v := ?_) rfl (by rfl) (fun _ _ _ h => h) (fun w' hSw => ?_) ?_; rotate_left; · (go_simp; try with_reducible rfl)))
      | ((with_reducible refine Plan2.chain_pre ?_)
         refine Plan2.chain_step rfl (fun K hK => ?_)
         go_simp
         first
           | (have uj20_ := uj2
              clear uj20_
              refine (l20Words_any w0.heap.size (w0.heap.size + 1) _ _ (Rdr.hold hR) (by omega) j2 (by omega) (by omega)).mono ?_
              rintro e wn ⟨⟨vl2, rfl, l2, hGl2, hnl2, hwl2⟩, hR, hy⟩
              obtain ⟨A6, c6, rfl, -, -⟩ := hGl2.form
              have hl2 := (GlB.of_gl (GlO.of_gro hGl2)).down (show wz.heap.size ≤ _ from (by first | omega | (simp; done) | (simp; omega)))
              have Hl2 := hide hwl2
              clear hGl2 hwl2 hnl2)
           | (have uj10_ := uj1
              clear uj10_
              refine (l20Words_any w0.heap.size (w0.heap.size + 1) _ _ (Rdr.hold hR) (by omega) j1 (by omega) (by omega)).mono ?_
              rintro e wn ⟨⟨vl1, rfl, l1, hGl1, hnl1, hwl1⟩, hR, hy⟩
              obtain ⟨A5, c5, rfl, -, -⟩ := hGl1.form
              have hl1 := (GlB.of_gl (GlO.of_gro hGl1)).down (show wz.heap.size ≤ _ from (by first | omega | (simp; done) | (simp; omega)))
              have Hl1 := hide hwl1
              clear hGl1 hwl1 hnl1)
           | (have uj10_ := uj1
              clear uj10_
              refine (pick_any w0.heap.size (w0.heap.size + 1) _ _ (Rdr.hold hR) (by omega) 4 (by omega) (by omega)).mono ?_
              rintro e wn ⟨⟨j2, rfl, lj2, qj2⟩, hR, hy⟩
              have uj2 : j2 < 4 := by omega
              clear qj2)
           | (refine (pick_any w0.heap.size (w0.heap.size + 1) _ _ (Rdr.hold hR) (by omega) 4 (by omega) (by omega)).mono ?_
              rintro e wn ⟨⟨j1, rfl, lj1, qj1⟩, hR, hy⟩
              have uj1 : j1 < 4 := by omega
              clear qj1)
           | (have hC : Turn [w0.heap.size, qr] w7 (wz.setCell ⟨qr, 0, none⟩ (.slice (some ⟨b, off, none⟩) L.length c1)) := Turn.hold hC
              with_reducible refine hK.out _ _ hC ?_
              have hy : Turn [qr] wz (wz.setCell ⟨qr, 0, none⟩ (.slice (some ⟨b, off, none⟩) L.length c1)) := Turn.hold (Turn.refl _ _)
              clear hR
              have hBr : Bx (wz.setCell ⟨qr, 0, none⟩ (.slice (some ⟨b, off, none⟩) L.length c1)) qr [.slice (some ⟨b, off, none⟩) L.length c1] := by have := Bx.put hBr (j := 0) (by simp) (.slice (some ⟨b, off, none⟩) L.length c1); simpa using this
              have hFr : ∀ oo, (wz.setCell ⟨qr, 0, none⟩ (.slice (some ⟨b, off, none⟩) L.length c1)).frozen? ⟨qr, oo, none⟩ = false := fz_hold hFr
              generalize (wz.setCell ⟨qr, 0, none⟩ (.slice (some ⟨b, off, none⟩) L.length c1)) = wn at *)
         have hsz := hy.size
         try replace hg := GlB.turn hg hy (fun x hx => by first | (simp at hx; done) | (simp at hx; omega))
         try replace hrg := GlB.turn hrg hy (fun x hx => by first | (simp at hx; done) | (simp at hx; omega))
         try replace hl1 := GlB.turn hl1 hy (fun x hx => by first | (simp at hx; done) | (simp at hx; omega))
         try replace hl2 := GlB.turn hl2 hy (fun x hx => by first | (simp at hx; done) | (simp at hx; omega))
         try replace hBr := hy.bx hBr (by omega) (by first | (simp; done) | (simp; omega))
         try replace hFr := fun oo => (hy.frozen (by omega) (by first | (simp; done) | (simp; omega))).trans (hFr oo)
         try replace hC := hC.trans hy (fun x hx => .inl (by simp at hx; simp [hx]))
         try refine hK.out _ _ hC ?_
         clear hK hy
         obtain ⟨wz, hwz⟩ : ∃ wz : World, wz = wn := ⟨_, rfl⟩
         subst hwz
         try clear xr yr fr
         try (have xr := hBr 0 _ rfl; have yr : qr < wz.heap.size := (by omega); have fr := hFr)
         (try simp only [Act.put, List.setIfInBounds_toArray, List.set_cons_zero, List.set_cons_succ])))
    all_goals
      refine Plan2.tail_step ?_
      simp only [List.drop_succ_cons, List.drop_zero]
      clear hSt
      subst hqr
      have hx_ := hC.ext hxW (by simp; omega)
      clear xt0 yt ft
      have xr1 := hBr 0 _ rfl
      have yr1 : w.heap.size < wz.heap.size := by omega
      go_wp2
      refine bodyPost_ret (v := .tuple #[.agg #[.slice (some ⟨b, off, none⟩) L.length c1], .slice A9 (l ++ [65536]).length c9, .slice A5 l1.length c5, .slice A6 l2.length c6]) (by simp [results, Try.results12, go_sem, xr1]) rfl ⟨⟨L, (l ++ [65536]), l1, l2, _, _, _, _, _, _, _, _, rfl, hg.sl, hrg.sl, hl1.sl, hl2.sl, hbl, by simp; omega, fun x hx => by
        rcases List.mem_append.1 hx with hx | hx
        · have := HLW.out x hx; omega
        · simp at hx; omega, Hl1.out, Hl2.out⟩, Ext.hold hx_⟩

end Go.Proofs.Ytmbclopkopfngaa
