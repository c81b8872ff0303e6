/-
  NewI
-/
import Derived.Test.YtmbclopkopfngaaQPutJ
import Derived.Test.YtmbclopkopfngaaQNewP
import Derived.Deep.DeepCutAuto
namespace Go.Proofs.Ytmbclopkopfngaa
open Go.RowKit

set_option linter.unusedVariables false
set_option linter.unusedSimpArgs false
set_option maxRecDepth 100000

theorem Ext.both {w w1 : World} (he : Ext w w1) (p : Addr) (u : Value) (hp : p.block < w.heap.size) : Ext (w.setCell p u) (w1.setCell p u) := by
  refine ⟨⟨he.below.os, he.below.tape, he.below.output, by simpa [World.setCell] using he.size, fun k hk => ?_⟩⟩
  have hk' : k < w.heap.size := by simpa [World.setCell] using hk
  by_cases e : p.block = k
  · subst e
    have h := he.heap hp
    simp only [World.setCell, Array.getElem?_modify, h]
  · rw [heap_set _ _ _ _ e, heap_set _ _ _ _ e]
    exact he.heap hk'
theorem newtab_facts : ∀ k : Nat, k < 4 → tabOkB ⟨upL regAtom k⟩ = true ∧ tabPut ⟨upL regAtom k⟩ (regAtom (k : Int)) = ⟨upL regAtom (k + 1)⟩ ∧ tabPutAt ⟨upL regAtom k⟩ (regAtom (k : Int)) = (k : Int)
  | 0, _ => by decide
  | 1, _ => by decide
  | 2, _ => by decide
  | 3, _ => by decide
  | n + 4, h => absurd h (by omega)

set_option maxHeartbeats 16000000 in
theorem implPut_any (X : Nat → Prop) (k : Nat) (hk : k < 4) (L L' : List TabAtom) (hL : L = upL regAtom k) (hL' : L' = upL regAtom (k + 1)) (wb : World) (ab : Nat) (A : Option Addr) (c : Nat) (w : World) (hwb : Ext wb w) (hab : wb.heap.size ≤ ab) (hal : ab < w.heap.size)
    (hB : Bx w ab [.slice A L.length c, .bool false]) (hF : ∀ oo, w.frozen? ⟨ab, oo, none⟩ = false) (hT : Sl w (fun b => b < w.heap.size ∧ b ≠ ab ∧ ¬ X b) (.slice A L.length c) L) :
    Calls Try.prog 76 #[.pointer (some ⟨ab, 0, none⟩), .int .i64 1, .int .i64 (k : Int)] w fun e w' => ∃ r F A' c', e = .returned (.agg #[r]) ∧ OwnSl w' r (polK (k : Int)).monos F ∧ Fr w w' F ∧ Bx w' ab [.slice A' L'.length c', .bool false] ∧ (∀ oo, w'.frozen? ⟨ab, oo, none⟩ = false) ∧ Sl w' (fun b => b < w'.heap.size ∧ b ≠ ab ∧ (w.heap.size ≤ b ∨ ¬ X b)) (.slice A' L'.length c') L' ∧ Ext wb w' ∧ Ext (w.setCell ⟨ab, 0, none⟩ (.slice A' L'.length c')) w' := by
  obtain ⟨h1, h2, h3⟩ := newtab_facts k hk
  rw [← hL] at h1 h2 h3
  rw [← hL'] at h2
  have H1 := hide h1
  have H2 := hide h2
  have H3 := hide h3
  clear h1 h2 h3 hL hL'
  have z0 : (0 : Int) ≤ (k : Int) := by omega
  have z1 : (k : Int) ≤ 199 := by omega
  have hok : (regAtom (k : Int)).Ok := ⟨by show Fits 1; unfold Fits; omega, by show Fits (k : Int); unfold Fits; omega⟩
  have HOK := hide hok
  clear hok
  have hnil : ∀ (S : Nat → Prop) (W : World), Sl W S (.slice none 0 0) ([] : List TrmMono) := fun S W => ⟨none, 0, rfl, Nat.le_refl _, by simp [maxLen], fun _ => rfl, fun h => absurd rfl h⟩
  go_enter Try.func76, Try.ntmps76
  go_upto_region 1 with fail
  have he0 : Ext w (w.alloc (Obj.cells #[.slice none 0 0] 28)) := (Ext.auto)
  have hs0 : w.heap.size + 1 ≤ ((w.alloc (Obj.cells #[.slice none 0 0] 28))).heap.size := by simp
  have hq0 := hide (show ((w.alloc (Obj.cells #[.slice none 0 0] 28))).heap.size = w.heap.size + 1 by simp)
  have hBres_0 : Bx (w.alloc (Obj.cells #[.slice none 0 0] 28)) (w.heap.size) [.slice none 0 0] := (by have := (Bx.new w #[.slice none 0 0] 28); simpa using this)
  have hFres_0 : ∀ oo, ((w.alloc (Obj.cells #[.slice none 0 0] 28))).frozen? ⟨w.heap.size, oo, none⟩ = false := fun oo => by simp
  generalize (w.alloc (Obj.cells #[.slice none 0 0] 28)) = w0 at *
  have ya : ab < w0.heap.size := by omega
  have xa0 : w0.cell? ⟨ab, 0, none⟩ = some (.slice A L.length c) := (he0.cell hal).trans (hB 0 _ rfl)
  have xa1 : w0.cell? ⟨ab, 1, none⟩ = some (.bool false) := (he0.cell hal).trans (hB 1 _ rfl)
  go_wp2_with fail
  refine (putTabS_any (fun b => b < w.heap.size ∧ b ≠ ab ∧ ¬ X b) ⟨L⟩ (regAtom (k : Int)) _ _ _ _ ((hT.keep (fun b o hb => he0.cell hb.1) (fun _ h => h)).keep (fun _ _ _ => rfl) (fun b hb => Nat.lt_of_lt_of_le hb.1 he0.size)) (hnil _ _) (hnil _ _) (fun b hb => Nat.lt_of_lt_of_le hb.1 he0.size) (hT.keep (fun b o hb => he0.cell hb.1) (fun _ h => h)) (hnil _ _) (hnil _ _) HOK.out H1.out (by simp [regAtom]) (by simp [regAtom])).mono ?_
  rintro e w1 ⟨r, rfl, hS, hy⟩
  rw [H2.out] at hS
  rw [H3.out]
  replace hS : Sl w1 (fun b => b < w1.heap.size ∧ b ≠ ab ∧ b ≠ w.heap.size ∧ (w.heap.size ≤ b ∨ ¬ X b)) r L' := hS.keep (fun _ _ _ => rfl) (fun b hb => by
    have := hy.size
    rcases hb with hb | hb
    · have h1 := hb.1; exact ⟨by omega, hb.2.1, by omega, .inr hb.2.2⟩
    · have h1 := hb.1; exact ⟨hb.2, by omega, by omega, .inl (by omega)⟩)
  obtain ⟨A', c', rfl, -, -⟩ := hS.form
  clear xa0 xa1 ya
  have hx1 : Ext w0 w1 := Ext.trans (Ext.auto) hy
  have hs1 := hx1.size
  have he1 : Ext w w1 := he0.trans hx1
  have hBres_1 : Bx w1 (w.heap.size) [.slice none 0 0] := hx1.bx hBres_0 (by omega)
  have hFres_1 : ∀ oo, w1.frozen? ⟨w.heap.size, oo, none⟩ = false := fun oo => (hx1.frozen (by omega)).trans (hFres_0 oo)
  clear hBres_0 hFres_0
  clear hy
  go_upto_region 2 with fail
  have he2 : Ext w (w1.alloc (.cells #[.slice A' L'.length c'] 25)) := Ext.hold he1
  have hx2 : Ext w1 (w1.alloc (.cells #[.slice A' L'.length c'] 25)) := Ext.auto
  have hs2 : w1.heap.size + 1 ≤ ((w1.alloc (.cells #[.slice A' L'.length c'] 25))).heap.size := by simp
  have hBres_2 : Bx (w1.alloc (.cells #[.slice A' L'.length c'] 25)) (w.heap.size) [.slice none 0 0] := Bx.hold hBres_1
  have hFres_2 : ∀ oo, (w1.alloc (.cells #[.slice A' L'.length c'] 25)).frozen? ⟨w.heap.size, oo, none⟩ = false := fz_hold hFres_1
  have hBt_2 : Bx (w1.alloc (.cells #[.slice A' L'.length c'] 25)) (w1.heap.size) [.slice A' L'.length c'] := Bx.new w1 #[.slice A' L'.length c'] 25
  have hFt_2 : ∀ oo, (w1.alloc (.cells #[.slice A' L'.length c'] 25)).frozen? ⟨w1.heap.size, oo, none⟩ = false := fz_new w1 #[.slice A' L'.length c'] 25 rfl
  generalize (w1.alloc (.cells #[.slice A' L'.length c'] 25)) = w2 at *
  clear hBres_1 hFres_1
  replace hS : Sl w2 (fun b => b < w2.heap.size ∧ b ≠ ab ∧ b ≠ w.heap.size ∧ (w.heap.size ≤ b ∨ ¬ X b)) (.slice A' L'.length c') L' := hS.keep (fun b o hb => hx2.cell hb.1) (fun b hb => ⟨by have := hb.1; omega, hb.2⟩)
  have yt : w1.heap.size < w2.heap.size := by omega
  have xt0 : w2.cell? ⟨w1.heap.size, 0, none⟩ = some (.slice A' L'.length c') := hBt_2 0 _ rfl
  have ya : ab < w2.heap.size := by omega
  have xa0 : w2.cell? ⟨ab, 0, none⟩ = some (.slice A L.length c) := (he2.cell hal).trans (hB 0 _ rfl)
  have fa : ∀ oo, w2.frozen? ⟨ab, oo, none⟩ = false := fun oo => (he2.frozen hal).trans (hF oo)
  go_upto_region 6 with fail
  have hE3 : Ext wb (w2.setCell ⟨ab, 0, none⟩ (.slice A' L'.length c')) := Ext.hold (hwb.trans he2)
  have hG3 : Ext (w.setCell ⟨ab, 0, none⟩ (.slice A' L'.length c')) (w2.setCell ⟨ab, 0, none⟩ (.slice A' L'.length c')) := Ext.both he2 ⟨ab, 0, none⟩ _ hal
  have hBa_3 : Bx (w2.setCell ⟨ab, 0, none⟩ (.slice A' L'.length c')) ab [.slice A' L'.length c', .bool false] := by have := Bx.put (he2.bx hB hal) (j := 0) (by simp) (.slice A' L'.length c'); simpa using this
  have hFa_3 : ∀ oo, ((w2.setCell ⟨ab, 0, none⟩ (.slice A' L'.length c'))).frozen? ⟨ab, oo, none⟩ = false := fz_set fa _ _
  have hS3 : Sl (w2.setCell ⟨ab, 0, none⟩ (.slice A' L'.length c')) (fun b => b < ((w2.setCell ⟨ab, 0, none⟩ (.slice A' L'.length c'))).heap.size ∧ b ≠ ab ∧ b ≠ w.heap.size ∧ (w.heap.size ≤ b ∨ ¬ X b)) (.slice A' L'.length c') L' := hS.keep (fun b o hb => World.cell?_setCell_other _ _ _ _ (by intro e9; injection e9 with e9; exact hb.2.1 e9.symm)) (fun b hb => ⟨by have := hb.1; simp; omega, hb.2⟩)
  have hBr_3 : Bx (w2.setCell ⟨ab, 0, none⟩ (.slice A' L'.length c')) (w.heap.size) [.slice none 0 0] := Bx.setCell hBres_2 (by simp; omega) _
  have hFr_3 : ∀ oo, ((w2.setCell ⟨ab, 0, none⟩ (.slice A' L'.length c'))).frozen? ⟨w.heap.size, oo, none⟩ = false := fz_set hFres_2 _ _
  have hs3 : w2.heap.size ≤ ((w2.setCell ⟨ab, 0, none⟩ (.slice A' L'.length c'))).heap.size := by simp
  clear hS xa0 ya fa xt0 yt hBt_2 hBres_2 hFres_2
  generalize (w2.setCell ⟨ab, 0, none⟩ (.slice A' L'.length c')) = w3 at *
  go_wp2_with fail
  refine (implPolAtom_any (k : Int) _ z0 z1).mono ?_
  rintro e w4 ⟨r, F, rfl, hO, hFr, hy⟩
  obtain ⟨Pk, hPk⟩ : ∃ Pk, Pk = polK (k : Int) := ⟨_, rfl⟩
  rw [← hPk] at hO
  have HPk := hide hPk
  clear hPk
  obtain ⟨Ar, cr, rfl, -, -⟩ := hO.sl.form
  have hs4 := hy.size
  have xr0 : w4.cell? ⟨w.heap.size, 0, none⟩ = some (.slice none 0 0) := (hy.cell (by omega)).trans (hBr_3 0 _ rfl)
  have yr : w.heap.size < w4.heap.size := by omega
  have fr : ∀ oo, w4.frozen? ⟨w.heap.size, oo, none⟩ = false := fun oo => (hy.frozen (by omega)).trans (hFr_3 oo)
  go_wp2
  refine bodyPost_ret (v := .agg #[.slice Ar Pk.monos.length cr]) (by simp [results, Try.results76, go_sem, xr0]) rfl ⟨_, F, _, _, rfl, by rw [← HPk.out]; exact OwnSl.stay hO (fun z hz => by
      have q := hFr.2 z hz; have q1 := q.1
      repeat (first | rw [heap_set _ _ _ _ (by show _ ≠ z; omega)] | rw [heap_set _ _ _ _ (by simp; omega)])), hFr.mk1 (by omega) (by simp), Bx.setCell (hy.bx hBa_3 (by omega)) (by simp; omega) _, fz_set (fun oo => (hy.frozen (by omega)).trans (hFa_3 oo)) _ _, hS3.keep (fun b o hb => (World.cell?_setCell_other _ _ _ _ (by intro e9; injection e9 with e9; exact hb.2.2.1 e9.symm)).trans (hy.cell hb.1)) (fun b hb => ⟨by have := hb.1; simp; omega, hb.2.1, hb.2.2.2⟩), Ext.hold (hE3.trans hy), Ext.setCell (hG3.trans hy) (by simp [World.setCell]) _⟩

set_option maxHeartbeats 16000000 in
theorem implRegs_any (wb : World) (ab : Nat) (w : World) (hwb : Ext wb w) (hab : wb.heap.size ≤ ab) (hal : ab < w.heap.size)
    (hB : Bx w ab [.slice none 0 0, .bool false]) (hF : ∀ oo, w.frozen? ⟨ab, oo, none⟩ = false) :
    Calls Try.prog 49 #[.pointer (some ⟨ab, 0, none⟩)] w fun e w' => ∃ u F A c, e = .returned u ∧ OwnSl w' u newRegs F ∧ Fr w w' F ∧ Bx w' ab [.slice A newTab.atoms.length c, .bool false] ∧ (∀ oo, w'.frozen? ⟨ab, oo, none⟩ = false) ∧ Sl w' (fun b => b < w'.heap.size ∧ b ≠ ab) (.slice A newTab.atoms.length c) newTab.atoms ∧ w.heap.size ≤ w'.heap.size ∧ Ext wb w' := by
  obtain ⟨i0a, hi_, hz0, hz1, hz2⟩ := info_parts infTrmPoly
  have HIa := hide hi_
  have HZ0a := hide hz0
  have HZ1a := hide hz1
  have HZ2a := hide hz2
  clear hi_ hz0 hz1 hz2
  go_enter Try.func49, Try.ntmps49
  go_wp2
  go_loopw [3, 5] (fun u i wz => ∃ (k : Nat) (A8 : Option Addr) (n8 c8 : Nat) (Gs : List (List Nat)) (ys : List Value) (L : List TabAtom) (A : Option Addr) (c : Nat), k ≤ 4 ∧ i = .int .i64 k ∧ u = .slice A8 n8 c8 ∧ App wb wz 28 u (upL polK k) Gs ys ∧ (∀ q, u.ownBlock = some q → w.heap.size ≤ q) ∧ (∀ z, z ∈ Gs.flatten → w.heap.size ≤ z) ∧ w.heap.size ≤ wz.heap.size ∧ Hid (L = upL regAtom k) ∧ Bx wz ab [.slice A L.length c, .bool false] ∧ (∀ oo, wz.frozen? ⟨ab, oo, none⟩ = false) ∧ Sl wz (fun b => b < wz.heap.size ∧ b ≠ ab ∧ u.ownBlock ≠ some b) (.slice A L.length c) L) (fun _ i _ => 4 - (intOf i).toNat)
  case atStart => exact ⟨0, none, 0, 0, [], [], [], none, 0, by omega, rfl, rfl, (App.nil wb 28).call hwb, fun q hq => by simp [Value.ownBlock] at hq, fun z hz => by simp at hz, by omega, hide rfl, hB, hF, ⟨none, 0, rfl, Nat.le_refl _, by simp [maxLen], fun _ => rfl, fun h => absurd rfl h⟩⟩
  case round =>
    obtain ⟨w3, hwr⟩ : ∃ w3 : World, w3 = wr := ⟨_, rfl⟩
    subst hwr
    obtain ⟨k, A8, n8, c8, Gs, ys, L, A, c, hk, rfl, rfl, hB8, huo, hgo, hs3, HL, hBa, hFa, hS⟩ := hrel
    by_cases hlt : k < 4
    · 
      obtain ⟨L', hL'⟩ : ∃ L', L' = upL regAtom (k + 1) := ⟨_, rfl⟩
      have HL' := hide hL'
      clear hL'
      obtain ⟨Mk, hMk⟩ : ∃ Mk, Mk = upL polK k := ⟨_, rfl⟩
      rw [← hMk] at hB8
      have hMkl : Mk.length ≤ 4 := by rw [hMk, upL_len]; omega
      have HMk := hide hMk
      clear hMk
      have z0 : (0 : Int) ≤ (k : Int) := by omega
      have z4 : (k : Int) < 4 := by omega
      go_wp2_with fail
      refine (implPut_any (fun b => Value.ownBlock (.slice A8 n8 c8) = some b) k hlt L L' HL.out HL'.out wb ab A c w3 hB8.ext hab (by omega) hBa hFa hS).mono ?_
      rintro e w4 ⟨r, F, A', c', rfl, hO, hFr, hBa4, hFa4, hS4, hwb4, hy⟩
      obtain ⟨Pk, hPk⟩ : ∃ Pk, Pk = polK (k : Int) := ⟨_, rfl⟩
      rw [← hPk] at hO
      have HPk := hide hPk
      clear hPk
      obtain ⟨Ar, cr, rfl, -, -⟩ := hO.sl.form
      obtain ⟨wm, hwm⟩ : ∃ wm, wm = w3.setCell ⟨ab, 0, none⟩ (.slice A' L'.length c') := ⟨_, rfl⟩
      have hsm : wm.heap.size = w3.heap.size := by rw [hwm]; simp
      have hBm : App wb wm 28 (.slice A8 n8 c8) Mk Gs ys := by
        rw [hwm]
        exact App.set hB8 (p := ⟨ab, 0, none⟩) _ (fun q => by have := huo _ q; simp at this; omega) (fun hm => by have := hgo _ hm; simp at this; omega) hab
      rw [← hwm] at hy
      replace hFr : Fr wm w4 F := hFr.mk1 (by omega) (Nat.le_refl _)
      have HWM := hide hwm
      clear hwm hB8 hBa hFa hS
      have hs4 := hy.size
      have hrB := hBm.row.lt
      go_upto_region 6 with (
          at_builtin
          refine wpList_append_push2 (w0 := wb) (wr := wm) rfl _ _ 46 rfl i0a _ 24 Try.underlying46 HIa.out HZ0a.out HZ1a.out HZ2a.out rfl (by decide) hBm rfl Pk #[.slice Ar Pk.monos.length cr] 28 F _ rfl hy ⟨_, rfl, True.intro, hO⟩ hFr (by repeat (first | (exact fun _ h => absurd h (List.not_mem_nil)) | (refine List.forall_mem_cons.2 ⟨rfl, ?_⟩))) (by unfold maxLen; omega) (by omega) ?_
          intro u' wq8 ys' hB9 hgB hbB
          have hzB := hgB.size
          have hszB : w4.heap.size ≤ wq8.heap.size := by simp at hzB; omega)
      have hne9 : some ab ≠ Value.ownBlock (.slice A8 n8 c8) := fun q => by have := huo _ q.symm; omega
      have hBa8 : Bx wq8 ab [.slice A' L'.length c', .bool false] := (show Bx (w4.alloc (.cells #[.slice Ar Pk.monos.length cr] 28)) _ _ from Bx.alloc hBa4 (by omega) _ _).grown hgB (by simp; omega) hne9
      have hFa8 : ∀ oo, wq8.frozen? ⟨ab, oo, none⟩ = false := fz_grown (show ∀ oo, (w4.alloc (.cells #[.slice Ar Pk.monos.length cr] 28)).frozen? ⟨ab, oo, none⟩ = false from fz_alloc hFa4 (by omega) _) hgB (by simp; omega) hne9
      have hneb : ∀ b, (b < w4.heap.size ∧ b ≠ ab ∧ (w3.heap.size ≤ b ∨ ¬ Value.ownBlock (.slice A8 n8 c8) = some b)) → some b ≠ Value.ownBlock (.slice A8 n8 c8) := fun b hb q => by
        rcases hb.2.2 with h | h
        · have := (hrB b q.symm).2; omega
        · exact h q.symm
      have hS8 : Sl wq8 (fun b => b < wq8.heap.size ∧ b ≠ ab ∧ u'.ownBlock ≠ some b) (.slice A' L'.length c') L' := hS4.keep (fun b o hb => World.cell?_of_block ((hgB.block b (by have := hb.1; simp; omega) (hneb b hb)).trans ((show Ext w4 (w4.alloc (.cells #[.slice Ar Pk.monos.length cr] 28)) from Ext.auto).heap hb.1))) (fun b hb => ⟨by have := hb.1; omega, hb.2.1, fun q => by
        rcases hbB with h | h
        · exact hneb b hb (by rw [← q, h])
        · rw [h] at q; injection q with q; have := hb.1; simp at q; omega⟩)
      have huo9 : ∀ q, u'.ownBlock = some q → w.heap.size ≤ q := fun q hq => by
        rcases hbB with hb | hb
        · exact huo q (hb ▸ hq)
        · rw [hb] at hq; injection hq with hq; simp at hq; omega
      have hgo9 : ∀ z, z ∈ (Gs ++ [F]).flatten → w.heap.size ≤ z := fun z hz => by
        rw [List.flatten_append] at hz
        rcases List.mem_append.1 hz with hz | hz
        · exact hgo z hz
        · have := (hFr.2 z (by simpa using hz)).1; omega
      obtain ⟨M9, hM9⟩ : ∃ M9, M9 = Mk ++ [Pk] := ⟨_, rfl⟩
      rw [← hM9] at hB9
      have HM9 := hide hM9
      clear hM9
      obtain ⟨F9, hO9, -⟩ := hB9.done
      obtain ⟨A10, c10, rfl, -, -⟩ := hO9.sl.form
      clear hO9
      have HT2 := hide (show upL polK (k + 1) = M9 by rw [HM9.out, HMk.out, HPk.out]; rfl)
      go_wp2
      go_roundw
      case rel => exact ⟨k + 1, _, _, _, _, _, L', A', c', by omega, by go_num, rfl, by rw [HT2.out]; exact hB9, huo9, hgo9, by omega, HL', hBa8, hFa8, hS8⟩
      case measure => simp [intOf]; omega
    · 
      obtain rfl : k = 4 := by omega
      obtain rfl : L = newTab.atoms := HL.out
      obtain ⟨M4, hM4⟩ : ∃ M4, M4 = upL polK 4 := ⟨_, rfl⟩
      rw [← hM4] at hB8
      have HM4 := hide (show newRegs = M4 from hM4.symm)
      clear hM4
      obtain ⟨F2, hO2, hF2, hP2⟩ := App.doneIn (P := fun z => w.heap.size ≤ z) hB8 huo hgo
      have hFr : Fr w w3 F2 := ⟨hF2.1, fun z hz => ⟨hP2 z hz, (hF2.2 z hz).2⟩⟩
      go_wp2
      go_ret
      exact ⟨_, F2, A, c, rfl, by rw [HM4.out]; exact hO2, hFr, hBa, hFa, hS.keep (fun _ _ _ => rfl) (fun b hb => ⟨hb.1, hb.2.1⟩), hs3, hB8.ext⟩

set_option maxHeartbeats 16000000 in
theorem implSymNew_any  (w : World)   :
    Calls Try.prog 19 #[] w fun e w' => ∃ r1 r2 F1 F2, e = .returned (.tuple #[.agg #[r1], r2]) ∧ OwnSl w' r1 newTab.atoms F1 ∧ OwnSl w' r2 newRegs F2 ∧ Fr w w' (F1 ++ F2) ∧ Ext w w' := by
  go_enter Try.func19, Try.ntmps19
  go_upto_region 1 with fail
  have he0 : Ext w (w.alloc (Obj.cells #[.slice none 0 0] 25)) := (Ext.auto)
  have hs0 : w.heap.size + 1 ≤ ((w.alloc (Obj.cells #[.slice none 0 0] 25))).heap.size := by simp
  have hq0 := hide (show ((w.alloc (Obj.cells #[.slice none 0 0] 25))).heap.size = w.heap.size + 1 by simp)
  have hBres_0 : Bx (w.alloc (Obj.cells #[.slice none 0 0] 25)) (w.heap.size) [.slice none 0 0] := (by have := (Bx.new w #[.slice none 0 0] 25); simpa using this)
  have hFres_0 : ∀ oo, ((w.alloc (Obj.cells #[.slice none 0 0] 25))).frozen? ⟨w.heap.size, oo, none⟩ = false := fun oo => by simp
  generalize (w.alloc (Obj.cells #[.slice none 0 0] 25)) = w0 at *
  go_upto_region 2 with fail
  have hBres_0_ := hBres_0
  have hFres_0_ := hFres_0
  have hBa_ : Bx (w0.alloc (.cells #[.slice none 0 0, .bool false] 71)) w0.heap.size [.slice none 0 0, .bool false] := Bx.new w0 #[.slice none 0 0, .bool false] 71
  have hFa_ : ∀ oo, (w0.alloc (.cells #[.slice none 0 0, .bool false] 71)).frozen? ⟨w0.heap.size, oo, none⟩ = false := fz_new w0 #[.slice none 0 0, .bool false] 71 rfl
  have he1 : Ext w (w0.alloc (.cells #[.slice none 0 0, .bool false] 71)) := Ext.hold he0
  have hx1 : Ext w0 (w0.alloc (.cells #[.slice none 0 0, .bool false] 71)) := Ext.auto
  have hs1 : w0.heap.size + 1 ≤ ((w0.alloc (.cells #[.slice none 0 0, .bool false] 71))).heap.size := by simp
  have hBres_1 : Bx (w0.alloc (.cells #[.slice none 0 0, .bool false] 71)) (w.heap.size) [.slice none 0 0] := Bx.hold hBres_0
  have hFres_1 : ∀ oo, (w0.alloc (.cells #[.slice none 0 0, .bool false] 71)).frozen? ⟨w.heap.size, oo, none⟩ = false := fz_hold hFres_0
  generalize (w0.alloc (.cells #[.slice none 0 0, .bool false] 71)) = w1 at *
  clear hBres_0 hFres_0
  go_wp2_with fail
  refine (implRegs_any w0 w0.heap.size w1 hx1 (Nat.le_refl _) (by omega) hBa_ hFa_).mono ?_
  rintro e w2 ⟨u, F2, A, c, rfl, hO2, hF2, hBa, hFa, hS, hsz2, hy⟩
  have he2 : Ext w w2 := he0.trans hy
  obtain ⟨N4, hN4⟩ : ∃ N4, N4 = newTab.atoms := ⟨_, rfl⟩
  rw [← hN4] at hBa hS
  obtain ⟨A8, c8, rfl, -, -⟩ := hO2.sl.form
  have HN4 := hide hN4
  clear hN4 hBa_ hFa_
  have ya : w0.heap.size < w2.heap.size := by omega
  have xa0 := hBa 0 _ rfl
  go_wp2_with fail
  refine (cloneTab_any newTab _ _ (by rw [← HN4.out]; exact hS.keep (fun _ _ _ => rfl) (fun b hb => hb.1)) (by decide)).mono ?_
  rintro e w3 ⟨r, F1, rfl, hO1, hF1, hy3⟩
  rw [← HN4.out] at hO1
  obtain ⟨B1, d1, rfl, -, -⟩ := hO1.sl.form
  have hs3 := hy3.size
  have hres := (hy.trans hy3)
  have xr0 : w3.cell? ⟨w.heap.size, 0, none⟩ = some (.slice none 0 0) := (hres.cell (by omega)).trans (hBres_0_ 0 _ rfl)
  have yr : w.heap.size < w3.heap.size := by omega
  have fr : ∀ oo, w3.frozen? ⟨w.heap.size, oo, none⟩ = false := fun oo => (hres.frozen (by omega)).trans (hFres_0_ oo)
  go_wp2
  refine bodyPost_ret (v := .tuple #[.agg #[.slice B1 N4.length d1], .slice A8 newRegs.length c8]) (by simp [results, Try.results19, go_sem, xr0]) rfl ⟨_, _, F1, F2, rfl, by rw [← HN4.out]; exact OwnSl.stay (hO1) (fun z hz => by
      have h1 := (hF1.2 z hz).1
      repeat (first | rw [heap_set _ _ _ _ (by show _ ≠ z; omega)] | rw [heap_set _ _ _ _ (by simp; omega)])), OwnSl.stay (OwnSl.up hO2 hF2 hy3) (fun z hz => by
      have h1 := (hF2.2 z hz).1
      repeat (first | rw [heap_set _ _ _ _ (by show _ ≠ z; omega)] | rw [heap_set _ _ _ _ (by simp; omega)])), ?_, Ext.hold (he2.trans hy3)⟩
  refine ⟨List.nodup_append.2 ⟨hF1.1, hF2.1, fun a ha b hb e => ?_⟩, fun z hz => ?_⟩
  · subst e
    have h1 := (hF1.2 a ha).1
    have h2 := (hF2.2 a hb).2
    omega
  · rcases List.mem_append.1 hz with hz | hz
    · have h1 := (hF1.2 z hz).1; have h2 := (hF1.2 z hz).2; exact ⟨by omega, by simp; omega⟩
    · have h1 := (hF2.2 z hz).1; have h2 := (hF2.2 z hz).2; exact ⟨by omega, by simp; omega⟩

end Go.Proofs.Ytmbclopkopfngaa
