/-
  NewS
-/
import Derived.Test.YtmbclopkopfngaaQNewP
import Derived.Test.YtmbclopkopfngaaQByteLib
import Derived.Deep.DeepCutAuto
namespace Go.Proofs.Ytmbclopkopfngaa
open Go.RowKit

set_option linter.unusedVariables false
set_option linter.unusedSimpArgs false
set_option maxRecDepth 100000

set_option maxHeartbeats 16000000 in
theorem specSymNew_any  (w : World)   :
    Calls Try.prog 20 #[] w fun e w' => ∃ r1 r2 F1 F2, e = .returned (.tuple #[.agg #[r1], r2]) ∧ OwnSl w' r1 newTab.atoms F1 ∧ OwnSl w' r2 newRegs F2 ∧ Fr w w' (F1 ++ F2) ∧ Ext w w' ∧ Room w.heap.size 4 30 w' r1 := by
  obtain ⟨i0a, hi_, hz0, hz1, hz2⟩ := info_parts infTabAtom
  have HIa := hide hi_
  have HZ0a := hide hz0
  have HZ1a := hide hz1
  have HZ2a := hide hz2
  clear hi_ hz0 hz1 hz2
  obtain ⟨i0b, hi_, hz0, hz1, hz2⟩ := info_parts infTrmPoly
  have HIb := hide hi_
  have HZ0b := hide hz0
  have HZ1b := hide hz1
  have HZ2b := hide hz2
  clear hi_ hz0 hz1 hz2
  go_enter Try.func20, Try.ntmps20
  go_upto_region 1 with fail
  have he0 : Ext w (w.alloc (Obj.cells #[.slice none 0 0] 25)) := (Ext.auto)
  have hs0 : w.heap.size + 1 ≤ ((w.alloc (Obj.cells #[.slice none 0 0] 25))).heap.size := by simp
  have hq0 := hide (show ((w.alloc (Obj.cells #[.slice none 0 0] 25))).heap.size = w.heap.size + 1 by simp)
  have hBres_0 : Bx (w.alloc (Obj.cells #[.slice none 0 0] 25)) (w.heap.size) [.slice none 0 0] := (by have := (Bx.new w #[.slice none 0 0] 25); simpa using this)
  have hFres_0 : ∀ oo, ((w.alloc (Obj.cells #[.slice none 0 0] 25))).frozen? ⟨w.heap.size, oo, none⟩ = false := fun oo => by simp
  generalize (w.alloc (Obj.cells #[.slice none 0 0] 25)) = w0 at *
  go_upto_region 2 with fail
  have he1 : Ext w (w0.alloc (.cells #[.slice none 0 0] 25)) := Ext.hold he0
  have hx1 : Ext w0 (w0.alloc (.cells #[.slice none 0 0] 25)) := Ext.auto
  have hs1 : w0.heap.size + 1 ≤ ((w0.alloc (.cells #[.slice none 0 0] 25))).heap.size := by simp
  have hBres_1 : Bx (w0.alloc (.cells #[.slice none 0 0] 25)) (w.heap.size) [.slice none 0 0] := Bx.hold hBres_0
  have hFres_1 : ∀ oo, (w0.alloc (.cells #[.slice none 0 0] 25)).frozen? ⟨w.heap.size, oo, none⟩ = false := fz_hold hFres_0
  have hBx_1 : Bx (w0.alloc (.cells #[.slice none 0 0] 25)) (w0.heap.size) [.slice none 0 0] := Bx.new w0 #[.slice none 0 0] 25
  have hFx_1 : ∀ oo, (w0.alloc (.cells #[.slice none 0 0] 25)).frozen? ⟨w0.heap.size, oo, none⟩ = false := fz_new w0 #[.slice none 0 0] 25 rfl
  generalize (w0.alloc (.cells #[.slice none 0 0] 25)) = w1 at *
  clear hBres_0 hFres_0
  go_upto_region 3 with fail
  have hB0_ : App w (w1.alloc (.cells #[] 28)) 28 (.slice (some ⟨w1.heap.size, 0, none⟩) 0 0) ([] : List TrmPoly) [] [] := (App.emptyAt w1 28 _ rfl).down he1
  have he2 : Ext w (w1.alloc (.cells #[] 28)) := Ext.hold he1
  have hx2 : Ext w1 (w1.alloc (.cells #[] 28)) := Ext.auto
  have hs2 : w1.heap.size + 1 ≤ ((w1.alloc (.cells #[] 28))).heap.size := by simp
  have hBres_2 : Bx (w1.alloc (.cells #[] 28)) (w.heap.size) [.slice none 0 0] := Bx.hold hBres_1
  have hFres_2 : ∀ oo, (w1.alloc (.cells #[] 28)).frozen? ⟨w.heap.size, oo, none⟩ = false := fz_hold hFres_1
  have hBx_2 : Bx (w1.alloc (.cells #[] 28)) (w0.heap.size) [.slice none 0 0] := Bx.hold hBx_1
  have hFx_2 : ∀ oo, (w1.alloc (.cells #[] 28)).frozen? ⟨w0.heap.size, oo, none⟩ = false := fz_hold hFx_1
  generalize (w1.alloc (.cells #[] 28)) = w2 at *
  clear hBres_1 hFres_1 hBx_1 hFx_1
  go_wp2
  go_loopw [3, 4] (fun u i wz => ∃ (k : Nat) (v : Value) (Fs : List (List Nat)) (xs : List Value) (A8 : Option Addr) (n8 c8 : Nat) (Gs : List (List Nat)) (ys : List Value), k ≤ 4 ∧ i = .int .i64 k ∧ App w wz 30 v (upL regAtom k) Fs xs ∧ Fs.flatten = [] ∧ (∀ q, v.ownBlock = some q → w1.heap.size ≤ q) ∧ u = .slice A8 n8 c8 ∧ App w wz 28 u (upL polK k) Gs ys ∧ (∀ q, u.ownBlock = some q → w1.heap.size ≤ q) ∧ (∀ z, z ∈ Gs.flatten → w1.heap.size ≤ z) ∧ Apart2 v u ∧ (∀ q, v.ownBlock = some q → q ∉ Gs.flatten) ∧ Ext w wz ∧ w1.heap.size ≤ wz.heap.size ∧ Bx wz (w0.heap.size) [v] ∧ (∀ oo, wz.frozen? ⟨w0.heap.size, oo, none⟩ = false) ∧ Bx wz (w.heap.size) [.slice none 0 0] ∧ (∀ oo, wz.frozen? ⟨w.heap.size, oo, none⟩ = false)) (fun _ i _ => 4 - (intOf i).toNat)
  case atStart => exact ⟨0, .slice none 0 0, [], [], _, _, _, [], [], by omega, rfl, (App.nil w 30).call he2, rfl, fun q hq => by simp [Value.ownBlock] at hq, rfl, hB0_, fun q hq => by simp [Value.ownBlock] at hq; omega, fun z hz => by simp at hz, fun q hq => by simp [Value.ownBlock] at hq, fun q hq => by simp [Value.ownBlock] at hq, he2, by omega, hBx_2, hFx_2, hBres_2, hFres_2⟩
  case round =>
    obtain ⟨w3, hwr⟩ : ∃ w3 : World, w3 = wr := ⟨_, rfl⟩
    subst hwr
    clear hB0_ hBx_2 hFx_2 hBres_2 hFres_2
    obtain ⟨k, v, Fs, xs, A8, n8, c8, Gs, ys, hk, rfl, hA, hfl, hvo, rfl, hB, huo, hgo, hap, hag, he3, hs3, hBx_3, hFx_3, hBres_3, hFres_3⟩ := hrel
    by_cases hlt : k < 4
    · 
      obtain ⟨Lk, hLk⟩ : ∃ Lk, Lk = upL regAtom k := ⟨_, rfl⟩
      rw [← hLk] at hA
      obtain ⟨Mk, hMk⟩ : ∃ Mk, Mk = upL polK k := ⟨_, rfl⟩
      rw [← hMk] at hB
      have hLkl : Lk.length ≤ 4 := by rw [hLk, upL_len]; omega
      have hMkl : Mk.length ≤ 4 := by rw [hMk, upL_len]; omega
      have HLk := hide hLk
      have HMk := hide hMk
      clear hLk hMk
      obtain ⟨F7, hO7, -⟩ := hA.done
      obtain ⟨A7, c7, rfl, -, -⟩ := hO7.sl.form
      clear hO7
      have hrA := hA.row.lt
      have hrB := hB.row.lt
      have hrG : ∀ z, z ∈ Gs.flatten → z < w3.heap.size := fun z hz => (hB.fr.2 z hz).2
      have z0 : (0 : Int) ≤ (k : Int) := by omega
      have z1 : (k : Int) ≤ 199 := by omega
      have z4 : (k : Int) < 4 := by omega
      have hok : (regAtom (k : Int)).Ok := ⟨by show Fits 1; unfold Fits; omega, by show Fits (k : Int); unfold Fits; omega⟩
      have HOK := hide hok
      clear hok
      have yx : w0.heap.size < w3.heap.size := by omega
      have xx0 : w3.cell? ⟨w0.heap.size, 0, none⟩ = some (.slice A7 Lk.length c7) := hBx_3 0 _ rfl
      go_upto_region 7 with (
          at_builtin
          clear xx0 yx
          have hBZ : Bx (w3.alloc (.cells #[.int .i64 1, .int .i64 (k : Int), .slice none 0 0, .slice none 0 0] 30)) (w0.heap.size) [.slice A7 Lk.length c7] := Bx.alloc hBx_3 (by omega) _ _
          have hFZ : ∀ oo, (w3.alloc (.cells #[.int .i64 1, .int .i64 (k : Int), .slice none 0 0, .slice none 0 0] 30)).frozen? ⟨w0.heap.size, oo, none⟩ = false := fz_alloc hFx_3 (by omega) _
          refine wpList_append_push2 (w0 := w) (wr := w3) rfl _ _ 23 rfl i0a _ 64 Try.underlying23 HIa.out HZ0a.out HZ1a.out HZ2a.out rfl (by decide) hA rfl (regAtom (k : Int)) #[.int .i64 1, .int .i64 (k : Int), .slice none 0 0, .slice none 0 0] 30 ([]) _ rfl (Ext.refl _) ⟨_, _, [], [], rfl, HOK.out, OwnSl.nil _, OwnSl.nil _, rfl⟩ (Fr.nil _ _) (by repeat (first | (exact fun _ h => absurd h (List.not_mem_nil)) | (refine List.forall_mem_cons.2 ⟨rfl, ?_⟩))) (by unfold maxLen; omega) (by omega) ?_
          intro v' wq9 xs' hA9 hg9 hb9
          have hz9 := hg9.size
          have hne9 : some (w0.heap.size) ≠ (Value.ownBlock (.slice A7 Lk.length c7)) := fun q => by have := hvo _ q.symm; omega
          have hBx9 := (show Bx (w3.alloc (.cells #[.int .i64 1, .int .i64 (k : Int), .slice none 0 0, .slice none 0 0] 30)) (w0.heap.size) [.slice A7 Lk.length c7] from hBZ).grown hg9 (by simp; omega) hne9
          have hFx9 := fz_grown (show ∀ oo, (w3.alloc (.cells #[.int .i64 1, .int .i64 (k : Int), .slice none 0 0, .slice none 0 0] 30)).frozen? ⟨w0.heap.size, oo, none⟩ = false from hFZ) hg9 (by simp; omega) hne9
          have yz9 : w0.heap.size < wq9.heap.size := by simp at hz9; omega
          have xz0 := hBx9 0 _ rfl
          have hvo9 : ∀ q, v'.ownBlock = some q → w1.heap.size ≤ q := fun q hq => by
            rcases hb9 with hb | hb
            · exact hvo q (hb ▸ hq)
            · rw [hb] at hq; injection hq with hq; simp at hq; omega
          obtain ⟨L9, hL9⟩ : ∃ L9, L9 = Lk ++ [regAtom (k : Int)] := ⟨_, rfl⟩
          rw [← hL9] at hA9
          have HL9 := hide hL9
          clear hL9
          obtain ⟨F9, hO9, -⟩ := hA9.done
          obtain ⟨A9, c9, rfl, -, -⟩ := hO9.sl.form
          clear hO9
          have hsz9 : w3.heap.size ≤ wq9.heap.size := by simp at hz9; omega)
      have hfl9 : (Fs ++ [([] : List Nat)]).flatten = [] := by simp [hfl]
      have hA8 : App w (wq9.setCell ⟨w0.heap.size, 0, none⟩ (.slice A9 L9.length c9)) 30 (.slice A9 L9.length c9) L9 (Fs ++ [[]]) xs' := App.set hA9 (p := ⟨w0.heap.size, 0, none⟩) (.slice A9 L9.length c9) (fun q => by have := hvo9 _ q; simp at this; omega) (by rw [hfl9]; simp) (by simp; omega)
      have hB8 : App w (wq9.setCell ⟨w0.heap.size, 0, none⟩ (.slice A9 L9.length c9)) 28 (.slice A8 n8 c8) Mk Gs ys := App.set (App.grownOther (hB.call (show Ext w3 (w3.alloc (.cells #[.int .i64 1, .int .i64 (k : Int), .slice none 0 0, .slice none 0 0] 30)) from Ext.auto)) hg9 (fun q hq e => hap q e hq) (fun z hz e => hag z e hz) (fun q hq => (hrA q hq).1)) (p := ⟨w0.heap.size, 0, none⟩) (.slice A9 L9.length c9) (fun q => by have := huo _ q; simp at this; omega) (fun hm => by have := hgo _ hm; simp at this; omega) (by simp; omega)
      have hBx_4 : Bx (wq9.setCell ⟨w0.heap.size, 0, none⟩ (.slice A9 L9.length c9)) (w0.heap.size) [.slice A9 L9.length c9] := by have := Bx.put hBx9 (j := 0) (by simp) (.slice A9 L9.length c9); simpa using this
      have hFx_4 : ∀ oo, (wq9.setCell ⟨w0.heap.size, 0, none⟩ (.slice A9 L9.length c9)).frozen? ⟨w0.heap.size, oo, none⟩ = false := fz_set hFx9 _ _
      have hBres_4 : Bx (wq9.setCell ⟨w0.heap.size, 0, none⟩ (.slice A9 L9.length c9)) (w.heap.size) [.slice none 0 0] := Bx.setCell ((show Bx (w3.alloc (.cells #[.int .i64 1, .int .i64 (k : Int), .slice none 0 0, .slice none 0 0] 30)) _ _ from Bx.alloc hBres_3 (by omega) _ _).grown hg9 (by simp; omega) (fun q => by have := hvo _ q.symm; omega)) (by simp; omega) _
      have hFres_4 : ∀ oo, (wq9.setCell ⟨w0.heap.size, 0, none⟩ (.slice A9 L9.length c9)).frozen? ⟨w.heap.size, oo, none⟩ = false := fz_set (fz_grown (show ∀ oo, (w3.alloc (.cells #[.int .i64 1, .int .i64 (k : Int), .slice none 0 0, .slice none 0 0] 30)).frozen? ⟨w.heap.size, oo, none⟩ = false from fz_alloc hFres_3 (by omega) _) hg9 (by simp; omega) (fun q => by have := hvo _ q.symm; omega)) _ _
      have he4 : Ext w (wq9.setCell ⟨w0.heap.size, 0, none⟩ (.slice A9 L9.length c9)) := hA8.ext
      have hs4 : w3.heap.size ≤ (wq9.setCell ⟨w0.heap.size, 0, none⟩ (.slice A9 L9.length c9)).heap.size := by simp; omega
      have hap9 : Apart2 (.slice A9 L9.length c9) (.slice A8 n8 c8) := hap.left hb9 (fun q hq => by have := (hrB q hq).2; simp; omega)
      have hag9 : ∀ q, Value.ownBlock (.slice A9 L9.length c9) = some q → q ∉ Gs.flatten := fun q hq hz => by
        rcases hb9 with hb | hb
        · exact hag q (hb ▸ hq) hz
        · rw [hb] at hq; injection hq with hq; have := hrG _ hz; simp at hq; omega
      clear hA9 hg9 hb9 hBx9 hFx9 hz9 hsz9 hne9 yz9 xz0 hBZ hFZ hA hB hap hag hrA hrB hrG hvo hBx_3 hFx_3 hBres_3 hFres_3
      generalize (wq9.setCell ⟨w0.heap.size, 0, none⟩ (.slice A9 L9.length c9)) = w4 at *
      have hrA := hA8.row.lt
      have hrB := hB8.row.lt
      have hrG : ∀ z, z ∈ Gs.flatten → z < w4.heap.size := fun z hz => (hB8.fr.2 z hz).2
      go_wp2_with fail
      refine (specPolAtom_any (k : Int) _ z0 z1).mono ?_
      rintro e w5 ⟨r, F, rfl, hO, hF, hy⟩
      obtain ⟨Pk, hPk⟩ : ∃ Pk, Pk = polK (k : Int) := ⟨_, rfl⟩
      rw [← hPk] at hO
      have HPk := hide hPk
      clear hPk
      obtain ⟨Ar, cr, rfl, -, -⟩ := hO.sl.form
      have hx5 : Ext w4 w5 := Ext.trans (Ext.auto) hy
      have hs5 := hx5.size
      have he5 : Ext w w5 := he4.trans hx5
      have hBx_5 : Bx w5 (w0.heap.size) [.slice A9 L9.length c9] := hx5.bx hBx_4 (by omega)
      have hFx_5 : ∀ oo, w5.frozen? ⟨w0.heap.size, oo, none⟩ = false := fun oo => (hx5.frozen (by omega)).trans (hFx_4 oo)
      have hBres_5 : Bx w5 (w.heap.size) [.slice none 0 0] := hx5.bx hBres_4 (by omega)
      have hFres_5 : ∀ oo, w5.frozen? ⟨w.heap.size, oo, none⟩ = false := fun oo => (hx5.frozen (by omega)).trans (hFres_4 oo)
      clear hBx_4 hFx_4 hBres_4 hFres_4
      go_upto_region 5 with (
          at_builtin
          refine wpList_append_push2 (w0 := w) (wr := w4) rfl _ _ 46 rfl i0b _ 24 Try.underlying46 HIb.out HZ0b.out HZ1b.out HZ2b.out rfl (by decide) hB8 rfl Pk #[.slice Ar Pk.monos.length cr] 28 F _ rfl hy ⟨_, rfl, True.intro, hO⟩ hF (by repeat (first | (exact fun _ h => absurd h (List.not_mem_nil)) | (refine List.forall_mem_cons.2 ⟨rfl, ?_⟩))) (by unfold maxLen; omega) (by omega) ?_
          intro u' wq8 ys' hB9 hgB hbB
          have hzB := hgB.size
          have hszB : w5.heap.size ≤ wq8.heap.size := by simp at hzB; omega)
      have hA10 : App w wq8 30 (.slice A9 L9.length c9) L9 (Fs ++ [[]]) xs' := App.grownOther ((hA8.call hy).call (show Ext w5 (w5.alloc (.cells #[.slice Ar Pk.monos.length cr] 28)) from Ext.auto)) hgB (fun q hq e => hap9 q hq e) (by rw [hfl9]; simp) (fun q hq => (hrB q hq).1)
      have hBx8 : Bx wq8 (w0.heap.size) [.slice A9 L9.length c9] := (show Bx (w5.alloc (.cells #[.slice Ar Pk.monos.length cr] 28)) _ _ from Bx.alloc hBx_5 (by omega) _ _).grown hgB (by simp; omega) (fun q => by have := huo _ q.symm; omega)
      have hFx8 : ∀ oo, wq8.frozen? ⟨w0.heap.size, oo, none⟩ = false := fz_grown (show ∀ oo, (w5.alloc (.cells #[.slice Ar Pk.monos.length cr] 28)).frozen? ⟨w0.heap.size, oo, none⟩ = false from fz_alloc hFx_5 (by omega) _) hgB (by simp; omega) (fun q => by have := huo _ q.symm; omega)
      have hBres8 : Bx wq8 (w.heap.size) [.slice none 0 0] := (show Bx (w5.alloc (.cells #[.slice Ar Pk.monos.length cr] 28)) _ _ from Bx.alloc hBres_5 (by omega) _ _).grown hgB (by simp; omega) (fun q => by have := huo _ q.symm; omega)
      have hFres8 : ∀ oo, wq8.frozen? ⟨w.heap.size, oo, none⟩ = false := fz_grown (show ∀ oo, (w5.alloc (.cells #[.slice Ar Pk.monos.length cr] 28)).frozen? ⟨w.heap.size, oo, none⟩ = false from fz_alloc hFres_5 (by omega) _) hgB (by simp; omega) (fun q => by have := huo _ q.symm; omega)
      have huo9 : ∀ q, u'.ownBlock = some q → w1.heap.size ≤ q := fun q hq => by
        rcases hbB with hb | hb
        · exact huo q (hb ▸ hq)
        · rw [hb] at hq; injection hq with hq; simp at hq; omega
      have hgo9 : ∀ z, z ∈ (Gs ++ [F]).flatten → w1.heap.size ≤ z := fun z hz => by
        rw [List.flatten_append] at hz
        rcases List.mem_append.1 hz with hz | hz
        · exact hgo z hz
        · have := (hF.2 z (by simpa using hz)).1; omega
      have hap8 : Apart2 (.slice A9 L9.length c9) u' := (Apart2.left hap9.symm hbB (fun q hq => by have := (hrA q hq).2; simp; omega)).symm
      have hag8 : ∀ q, Value.ownBlock (.slice A9 L9.length c9) = some q → q ∉ (Gs ++ [F]).flatten := fun q hq hz => by
        rw [List.flatten_append] at hz
        rcases List.mem_append.1 hz with hz | hz
        · exact hag9 q hq hz
        · have h1 := (hF.2 q (by simpa using hz)).1; have h2 := (hrA q hq).2; omega
      obtain ⟨M9, hM9⟩ : ∃ M9, M9 = Mk ++ [Pk] := ⟨_, rfl⟩
      rw [← hM9] at hB9
      have HM9 := hide hM9
      clear hM9
      obtain ⟨F9, hO9, -⟩ := hB9.done
      obtain ⟨A10, c10, rfl, -, -⟩ := hO9.sl.form
      clear hO9
      have HT1 := hide (show upL regAtom (k + 1) = L9 by rw [HL9.out, HLk.out]; rfl)
      have HT2 := hide (show upL polK (k + 1) = M9 by rw [HM9.out, HMk.out, HPk.out]; rfl)
      go_wp2
      go_roundw
      case rel => exact ⟨k + 1, _, _, _, _, _, _, _, _, by omega, by go_num, by rw [HT1.out]; exact hA10, hfl9, hvo9, rfl, by rw [HT2.out]; exact hB9, huo9, hgo9, hap8, hag8, hA10.ext, by omega, hBx8, hFx8, hBres8, hFres8⟩
      case measure => simp [intOf]; omega
    · 
      obtain rfl : k = 4 := by omega
      obtain ⟨L4, hL4⟩ : ∃ L4, L4 = upL regAtom 4 := ⟨_, rfl⟩
      rw [← hL4] at hA
      obtain ⟨M4, hM4⟩ : ∃ M4, M4 = upL polK 4 := ⟨_, rfl⟩
      rw [← hM4] at hB
      have HL4 := hide (show newTab.atoms = L4 from hL4.symm)
      have HM4 := hide (show newRegs = M4 from hM4.symm)
      clear hL4 hM4
      have hRm := Room.of_app hA
      obtain ⟨F1, hO1, hF1, hP1⟩ := App.doneIn (P := fun z => v.ownBlock = some z) hA (fun q hq => hq) (fun z hz => by rw [hfl] at hz; simp at hz)
      obtain ⟨F2, hO2, hF2, hP2⟩ := App.doneIn (P := fun z => (Value.slice A8 n8 c8).ownBlock = some z ∨ z ∈ Gs.flatten) hB (fun q hq => .inl hq) (fun z hz => .inr hz)
      have hFF : Fr w w3 (F1 ++ F2) := ⟨List.nodup_append.2 ⟨hF1.1, hF2.1, fun a ha b hb e => by
        subst e
        rcases hP2 a hb with h | h
        · exact hap a (hP1 a ha) h
        · exact hag a (hP1 a ha) h⟩, fun z hz => by
        rcases List.mem_append.1 hz with hz | hz
        · exact hF1.2 z hz
        · exact hF2.2 z hz⟩
      have hlo1 : ∀ z, z ∈ F1 → w1.heap.size ≤ z := fun z hz => hvo z (hP1 z hz)
      have hlo2 : ∀ z, z ∈ F2 → w1.heap.size ≤ z := fun z hz => by
        rcases hP2 z hz with h | h
        · exact huo z h
        · exact hgo z h
      obtain ⟨B1, d1, rfl, -, -⟩ := hO1.sl.form
      obtain ⟨B2, d2, hU, -, -⟩ := hO2.sl.form
      rw [hU] at hO2
      obtain ⟨rfl, rfl, rfl⟩ : A8 = B2 ∧ n8 = M4.length ∧ c8 = d2 := by injection hU with a b c; exact ⟨a, b, c⟩
      clear hU
      clear hA hB hap hag hvo huo hP1 hP2
      have yx : w0.heap.size < w3.heap.size := by omega
      have xx0 : w3.cell? ⟨w0.heap.size, 0, none⟩ = some (.slice B1 L4.length d1) := hBx_3 0 _ rfl
      have yres : w.heap.size < w3.heap.size := by omega
      have xres0 : w3.cell? ⟨w.heap.size, 0, none⟩ = some (.slice none 0 0) := hBres_3 0 _ rfl
      have fres := hFres_3
      go_wp2
      refine bodyPost_ret (v := .tuple #[.agg #[.slice B1 L4.length d1], .slice A8 M4.length c8]) (by simp [results, Try.results20, go_sem, xres0]) rfl ⟨_, _, F1, F2, rfl, by rw [HL4.out]; exact OwnSl.stay hO1 (fun z hz => by
          have h1 := hlo1 z hz
          repeat (first | rw [heap_set _ _ _ _ (by show _ ≠ z; omega)] | rw [heap_set _ _ _ _ (by simp; omega)])), by rw [HM4.out]; exact OwnSl.stay hO2 (fun z hz => by
          have h1 := hlo2 z hz
          repeat (first | rw [heap_set _ _ _ _ (by show _ ≠ z; omega)] | rw [heap_set _ _ _ _ (by simp; omega)])), hFF.mk1 (by omega) (by simp), Ext.hold he3, Room.hold hRm⟩

end Go.Proofs.Ytmbclopkopfngaa
