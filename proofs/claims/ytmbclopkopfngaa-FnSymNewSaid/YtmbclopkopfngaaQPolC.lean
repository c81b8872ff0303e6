/-
  PolC
-/
import Derived.Test.YtmbclopkopfngaaQRead
import Derived.Test.YtmbclopkopfngaaQRegLib
import Derived.Test.YtmbclopkopfngaaQCertLib
import Derived.Test.YtmbclopkopfngaaQRowLib
import Derived.Deep.DeepCutAuto
namespace Go.Proofs.Ytmbclopkopfngaa
open Go.RowKit

set_option linter.unusedVariables false
set_option linter.unusedSimpArgs false
set_option maxRecDepth 100000

theorem App.doneLo {α : Type} [Own α] {w wr : World} {e : TypeId} {v : Value} {l : List α} {Fs : List (List Nat)} {xs : List Value} {lo : Nat} (h : App w wr e v l Fs xs) (hv : ∀ q, v.ownBlock = some q → lo ≤ q) (hf : ∀ z, z ∈ Fs.flatten → lo ≤ z) : ∃ F, OwnSl wr v l F ∧ Fr w wr F ∧ ∀ z, z ∈ F → lo ≤ z := by
  rcases h.row.2 with ⟨rfl, hn⟩ | ⟨g, cap, cur, rfl, hb, hh, hnc, hcm, hcs, htake⟩
  · have : l = [] := List.eq_nil_of_length_eq_zero hn
    subst this
    exact ⟨[], OwnSl.nil _, Fr.nil _ _, fun z hz => by simp at hz⟩
  · by_cases hl : l = []
    · subst hl
      exact ⟨[], ⟨_, cap, rfl, hnc, hcm, fun h => by simp at h, fun _ => rfl, fun h => absurd rfl h⟩, Fr.nil _ _, fun z hz => by simp at hz⟩
    · have hgl : g < wr.heap.size := by
        rcases Nat.lt_or_ge g wr.heap.size with hlt | hge
        · exact hlt
        · rw [Array.getElem?_eq_none hge] at hh; cases hh
      refine ⟨g :: Fs.flatten, ⟨_, cap, rfl, hnc, hcm, fun h => by simp at h, fun h => absurd h hl, fun _ => ⟨g, 0, Fs, rfl, rfl, h.flen, fun o => by simp [World.frozen?, hh], fun i a Fi ha hf => ?_⟩⟩, ⟨List.nodup_cons.2 ⟨h.apart g rfl, h.fr.1⟩, fun b hm => ?_⟩, fun z hz => by
        rcases List.mem_cons.1 hz with rfl | hz
        · exact hv z rfl
        · exact hf z hz⟩
      · obtain ⟨vs, h1, h2⟩ := h.els i a Fi ha hf
        refine ⟨vs, h1, fun j u hu => ?_⟩
        have h3 := h2 j u hu
        rw [← htake] at h3
        rw [Nat.zero_add]
        rw [List.getElem?_take] at h3
        split at h3
        · simp [World.cell?, hh]
          simpa using h3
        · simp at h3
      · rcases List.mem_cons.1 hm with rfl | hm
        · exact ⟨hb, hgl⟩
        · exact h.fr.2 b hm

set_option maxHeartbeats 16000000 in
theorem l4Copy_any (l : List TrmMono) (vl : Value) (w : World) (hl : Sl w (Old w) vl l) (hn : Bulk.blk l ≤ 4194304) :
    Calls Try.prog 82 #[vl] w fun e w' => ∃ r F, e = .returned (.agg #[r]) ∧ OwnSl w' r l F ∧ Fr w w' F ∧ Ext w w' := by
  obtain ⟨Al, cl, rfl, hll, hml⟩ := hl.form
  have hnl : Bulk.blk l ≤ 4194304 := hn
  unfold maxLen at hml
  obtain ⟨i0a, hi_, hz0, hz1, hz2⟩ := info_parts infInt
  have HIa := hide hi_
  have HZ0a := hide hz0
  have HZ1a := hide hz1
  have HZ2a := hide hz2
  clear hi_ hz0 hz1 hz2
  obtain ⟨i0b, hi_, hz0, hz1, hz2⟩ := info_parts infTrmMono
  have HIb := hide hi_
  have HZ0b := hide hz0
  have HZ1b := hide hz1
  have HZ2b := hide hz2
  clear hi_ hz0 hz1 hz2
  have hbl := blk_len l
  go_enter Try.func82, Try.ntmps82
  go_upto_region 1 with fail
  have he0 : Ext w (w.alloc (Obj.cells #[.slice none 0 0] 28)) := (Ext.auto)
  have hs0 : w.heap.size + 1 ≤ ((w.alloc (Obj.cells #[.slice none 0 0] 28))).heap.size := by simp
  have hq0 := hide (show ((w.alloc (Obj.cells #[.slice none 0 0] 28))).heap.size = w.heap.size + 1 by simp)
  have hBres_0 : Bx (w.alloc (Obj.cells #[.slice none 0 0] 28)) (w.heap.size) [.slice none 0 0] := (by have := (Bx.new w #[.slice none 0 0] 28); simpa using this)
  have hFres_0 : ∀ oo, ((w.alloc (Obj.cells #[.slice none 0 0] 28))).frozen? ⟨w.heap.size, oo, none⟩ = false := fun oo => by simp
  generalize (w.alloc (Obj.cells #[.slice none 0 0] 28)) = w0 at *
  go_upto_region 2 with fail
  have he1 : Ext w (w0.alloc (.cells #[.slice none 0 0] 28)) := Ext.hold he0
  have hx1 : Ext w0 (w0.alloc (.cells #[.slice none 0 0] 28)) := Ext.auto
  have hs1 : w0.heap.size + 1 ≤ ((w0.alloc (.cells #[.slice none 0 0] 28))).heap.size := by simp
  have hBres_1 : Bx (w0.alloc (.cells #[.slice none 0 0] 28)) (w.heap.size) [.slice none 0 0] := Bx.hold hBres_0
  have hFres_1 : ∀ oo, (w0.alloc (.cells #[.slice none 0 0] 28)).frozen? ⟨w.heap.size, oo, none⟩ = false := fz_hold hFres_0
  have hBx_1 : Bx (w0.alloc (.cells #[.slice none 0 0] 28)) (w0.heap.size) [.slice none 0 0] := Bx.new w0 #[.slice none 0 0] 28
  have hFx_1 : ∀ oo, (w0.alloc (.cells #[.slice none 0 0] 28)).frozen? ⟨w0.heap.size, oo, none⟩ = false := fz_new w0 #[.slice none 0 0] 28 rfl
  generalize (w0.alloc (.cells #[.slice none 0 0] 28)) = w1 at *
  clear hBres_0 hFres_0
  go_wp2
  go_loopw [4] (fun i wz => ∃ (k : Nat) (v : Value) (Fs : List (List Nat)) (xs : List Value), k ≤ l.length ∧ i = .int .i64 k ∧ App w wz 79 v (l.take k) Fs xs ∧ (∀ q, v.ownBlock = some q → w1.heap.size ≤ q) ∧ (∀ z, z ∈ Fs.flatten → w1.heap.size ≤ z) ∧ Ext w wz ∧ w1.heap.size ≤ wz.heap.size ∧ Bx wz (w0.heap.size) [v] ∧ (∀ oo, wz.frozen? ⟨w0.heap.size, oo, none⟩ = false) ∧ Bx wz (w.heap.size) [.slice none 0 0] ∧ (∀ oo, wz.frozen? ⟨w.heap.size, oo, none⟩ = false)) (fun i _ => l.length - (intOf i).toNat)
  case atStart => exact ⟨0, _, _, _, by omega, rfl, (App.nil w 79).call he1, fun q hq => by simp [Value.ownBlock] at hq, fun z hz => by simp at hz, he1, by omega, hBx_1, hFx_1, hBres_1, hFres_1⟩
  case round =>
    obtain ⟨w2, hwr⟩ : ∃ w2 : World, w2 = wr := ⟨_, rfl⟩
    subst hwr
    clear hBres_1 hFres_1 hBx_1 hFx_1
    obtain ⟨k, v, Fs, xs, hk, rfl, hA, hvo, hfo, he2, hs2, hBx_2, hFx_2, hBres_2, hFres_2⟩ := hrel
    by_cases hlt : k < l.length
    · 
      obtain ⟨Lk, hLk⟩ : ∃ Lk, Lk = l.take k := ⟨_, rfl⟩
      rw [← hLk] at hA
      have hLkl : Lk.length ≤ k := by rw [hLk]; simp; omega
      have HLk := hide hLk
      clear hLk
      obtain ⟨F7, hO7, -⟩ := hA.done
      obtain ⟨A7, c7, rfl, -, -⟩ := hO7.sl.form
      clear hO7
      obtain ⟨b, off, va, rfl, hbo, hk0, hva, e0, e1⟩ := at_TrmMono (hl.ext he2) hlt
      obtain ⟨Ava, cva, rfl, -, -⟩ := hva.form
      have hbo1 : b < w2.heap.size := hbo
      have z0 : (0 : Int) ≤ (k : Int) := by omega
      have z1 : (k : Int) < (l.length : Int) := by omega
      have hbk := blk_el l k hlt
      have hba : Bulk.blk l[k] = Bulk.blk l[k].atoms := rfl
      have hbb := blk_len l[k].atoms
      have HT := hide (List.take_succ_eq_append_getElem hlt)
      have hak : l[k].atoms.length ≤ 4194304 := by omega
      clear hba hbb
      have yx : w0.heap.size < w2.heap.size := by omega
      have xx0 : w2.cell? ⟨w0.heap.size, 0, none⟩ = some (.slice A7 Lk.length c7) := hBx_2 0 _ rfl
      go_upto_region 5 with fail
      have hS : ∀ w', Ext w2 w' → ∀ bb oo, bb < w2.heap.size → w'.cell? ⟨bb, oo, none⟩ = w2.cell? ⟨bb, oo, none⟩ := fun w' hx bb oo hb => hx.cell hb
      refine wp_region_plan (fun w' => Ext w2 w') 16 (.float 0 (.float 1 (.float 2 (.float 3 (.float 4 (.float 5 (.float 6 (.float 8 (.float 9 (.float 10 (.float 11 (.float 12 (.chain 7 (.chain 13 (.float 14 (.chain 15 (.tail 16))))))))))))))))) (by kernel_rfl) (by kernel_rfl) (Ext.refl _).drew ?_
      iterate 12 ((refine Plan.float_step (v := ?_) rfl (by rfl) (fun _ _ _ h => h) (fun w' hSw => ?_) ?_; rotate_left; · (go_simp; try with_reducible rfl)); (try simp only [Act.put, List.setIfInBounds_toArray, List.set_cons_zero, List.set_cons_succ]))
      refine Plan.chain_step rfl (fun K hK => ?_)
      go_simp
      refine hK.out _ _ (show Ext w2 (w2.alloc (.cells #[] 3)).drew from Ext.auto) ?_
      clear hK
      (try simp only [Act.put, List.setIfInBounds_toArray, List.set_cons_zero, List.set_cons_succ])
      have hI0 : App w2 (w2.alloc (.cells #[] 3)).drew 3 (.slice (some ⟨w2.heap.size, 0, none⟩) 0 0) ([] : List Int) [] [] := (App.emptyAt w2 3 _ rfl).call (Ext.refl _).drew
      have hsI : w2.heap.size < ((w2.alloc (.cells #[] 3)).drew).heap.size := by simp
      have hvI := hva.ext (show Ext w2 (w2.alloc (.cells #[] 3)).drew from Ext.auto)
      have hxI : Ext w2 (w2.alloc (.cells #[] 3)).drew := Ext.auto
      generalize (w2.alloc (.cells #[] 3)).drew = wi at *
      refine Plan.chain_step rfl (fun K hK => ?_)
      refine wp_append_flat (α := Int) (w0 := w2) _ _ 39 rfl i0a _ 8 Try.underlying39 HIa.out HZ0a.out HZ1a.out HZ2a.out rfl hI0 rfl _ l[k].atoms (Old w2) rfl (hva.keep (Ext.old hxI) (fun _ h => h)) (by simp [maxLen]; omega) (by simp; omega) ?_
      intro v' wb Fs' xs' hAa hgA
      obtain ⟨F1, hO1, hF1⟩ := hAa.done
      simp only [List.nil_append] at hO1
      obtain ⟨B1, d1, rfl, -, -⟩ := hO1.sl.form
      have hxb : Ext w2 wb := hAa.ext
      clear hAa hgA
      refine hK.out _ _ hxb ?_
      clear hK
      (try simp only [Act.put, List.setIfInBounds_toArray, List.set_cons_zero, List.set_cons_succ])
      have hsb := hxb.size
      have hBZ : Bx (wb.alloc (.cells #[.int .i64 l[k].coef, .slice B1 l[k].atoms.length d1] 79)) (w0.heap.size) [.slice A7 Lk.length c7] := Bx.alloc (hxb.bx hBx_2 (by omega)) (by omega) _ _
      have hFZ : ∀ oo, (wb.alloc (.cells #[.int .i64 l[k].coef, .slice B1 l[k].atoms.length d1] 79)).frozen? ⟨w0.heap.size, oo, none⟩ = false := fz_alloc (fun oo => (hxb.frozen (by omega)).trans (hFx_2 oo)) (by omega) _
      (refine Plan.float_step (v := ?_) rfl (by rfl) (fun _ _ _ h => h) (fun w' hSw => ?_) ?_; rotate_left; · (go_simp; try with_reducible rfl)); (try simp only [Act.put, List.setIfInBounds_toArray, List.set_cons_zero, List.set_cons_succ])
      refine Plan.chain_step rfl (fun K hK => ?_)
      go_simp
      refine hK.out _ _ (hxb.alloc _) ?_
      clear hK
      (try simp only [Act.put, List.setIfInBounds_toArray, List.set_cons_zero, List.set_cons_succ])
      refine Plan.tail_step ?_
      simp only [List.drop_succ_cons, List.drop_zero]
      clear hS
      refine wpList_append_push2 (w0 := w) (wr := w2) rfl _ _ 26 rfl i0b _ 32 Try.underlying26 HIb.out HZ0b.out HZ1b.out HZ2b.out rfl (by decide) hA rfl (l[k]) #[.int .i64 l[k].coef, .slice B1 l[k].atoms.length d1] 79 (F1) _ rfl hxb ⟨_, rfl, hk0, hO1⟩ hF1 (by repeat (first | (exact fun _ h => absurd h (List.not_mem_nil)) | (refine List.forall_mem_cons.2 ⟨rfl, ?_⟩))) (by unfold maxLen; omega) (by omega) ?_
      intro v' wq9 xs' hA9 hg9 hb9
      have hz9 := hg9.size
      have hne9 : some (w0.heap.size) ≠ (Value.ownBlock (.slice A7 Lk.length c7)) := fun q => by have := hvo _ q.symm; omega
      have hBx9 := (show Bx (wb.alloc (.cells #[.int .i64 l[k].coef, .slice B1 l[k].atoms.length d1] 79)) (w0.heap.size) [.slice A7 Lk.length c7] from hBZ).grown hg9 (by simp; omega) hne9
      have hFx9 := fz_grown (show ∀ oo, (wb.alloc (.cells #[.int .i64 l[k].coef, .slice B1 l[k].atoms.length d1] 79)).frozen? ⟨w0.heap.size, oo, none⟩ = false from hFZ) hg9 (by simp; omega) hne9
      have yz9 : w0.heap.size < wq9.heap.size := by simp at hz9; omega
      have xz0 := hBx9 0 _ rfl
      have hvo9 : ∀ q, v'.ownBlock = some q → w1.heap.size ≤ q := fun q hq => by
        rcases hb9 with hb | hb
        · exact hvo q (hb ▸ hq)
        · rw [hb] at hq; injection hq with hq; simp at hq; omega
      obtain ⟨L9, hL9⟩ : ∃ L9, L9 = Lk ++ [l[k]] := ⟨_, rfl⟩
      rw [← hL9] at hA9
      have HL9 := hide hL9
      clear hL9
      obtain ⟨F9, hO9, -⟩ := hA9.done
      obtain ⟨A9, c9, rfl, -, -⟩ := hO9.sl.form
      clear hO9
      have hsz9 : w2.heap.size ≤ wq9.heap.size := by simp at hz9; omega
      go_wp2
      have hfo9 : ∀ z, z ∈ (Fs ++ [F1]).flatten → w1.heap.size ≤ z := fun z hz => by
        simp at hz
        rcases hz with hz | hz
        · exact hfo z (by simpa using hz)
        · have := (hF1.2 z hz).1; omega
      have hA8 := App.set hA9 (p := ⟨w0.heap.size, 0, none⟩) (.slice A9 L9.length c9) (fun q => by have := hvo9 _ q; simp at this; omega) (fun hm => by have := hfo9 _ hm; simp at this; omega) (by simp; omega)
      have hBx8 : Bx (wq9.setCell ⟨w0.heap.size, 0, none⟩ (.slice A9 L9.length c9)) (w0.heap.size) [.slice A9 L9.length c9] := by have := Bx.put hBx9 (j := 0) (by simp) (.slice A9 L9.length c9); simpa using this
      have hBr8 : Bx (wq9.setCell ⟨w0.heap.size, 0, none⟩ (.slice A9 L9.length c9)) (w.heap.size) [.slice none 0 0] := Bx.setCell ((show Bx (wb.alloc _) _ _ from Bx.alloc (hxb.bx hBres_2 (by omega)) (by omega) _ _).grown hg9 (by simp; omega) (fun q => by have := hvo _ q.symm; omega)) (by simp; omega) _
      have hFr8 : ∀ oo, (wq9.setCell ⟨w0.heap.size, 0, none⟩ (.slice A9 L9.length c9)).frozen? ⟨w.heap.size, oo, none⟩ = false := fz_set (fz_grown (fz_alloc (fun oo => (hxb.frozen (by omega)).trans (hFres_2 oo)) (by omega) _) hg9 (by simp; omega) (fun q => by have := hvo _ q.symm; omega)) _ _
      go_roundw
      case rel => exact ⟨k + 1, _, _, _, by omega, by go_num, by rw [HT.out, ← HLk.out, ← HL9.out]; exact hA8, hvo9, hfo9, hA8.ext, by simp; omega, hBx8, fz_set hFx9 _ _, hBr8, hFr8⟩
      case measure => simp [intOf]; omega
    · 
      obtain rfl : k = l.length := by omega
      rw [List.take_length] at hA
      obtain ⟨F, hO, hF, hOut_⟩ := App.doneLo hA hvo hfo
      have hO' := hO
      obtain ⟨B9, d9, rfl, -, -⟩ := hO.sl.form
      have yx : w0.heap.size < w2.heap.size := by omega
      have xx0 : w2.cell? ⟨w0.heap.size, 0, none⟩ = some (.slice B9 l.length d9) := hBx_2 0 _ rfl
      have yres : w.heap.size < w2.heap.size := by omega
      have xres0 : w2.cell? ⟨w.heap.size, 0, none⟩ = some (.slice none 0 0) := hBres_2 0 _ rfl
      have fres := hFres_2
      go_wp2
      refine bodyPost_ret (v := .agg #[.slice B9 l.length d9]) (by simp [results, Try.results82, go_sem, xres0]) rfl ⟨_, F, rfl, OwnSl.stay hO (fun z hz => by
          have q := hF.2 z hz; have h1 := hOut_ z hz
          repeat (first | rw [heap_set _ _ _ _ (by show _ ≠ z; omega)] | rw [heap_set _ _ _ _ (by simp; omega)])), hF.mk1 (Nat.le_refl _) (by simp), Ext.hold he2⟩

set_option maxHeartbeats 16000000 in
theorem clonePol_any (p : TrmPoly) (vp1 : Value) (w : World) (hp1 : Sl w (Old w) vp1 p.monos) (hn : Bulk.blk p ≤ 4194304) :
    Calls Try.prog 57 #[.agg #[vp1]] w fun e w' => ∃ r F, e = .returned (.agg #[r]) ∧ OwnSl w' r p.monos F ∧ Fr w w' F ∧ Ext w w' := by
  obtain ⟨Ap1, cp1, rfl, hlp1, hmp1⟩ := hp1.form
  have hnl : Bulk.blk p.monos ≤ 4194304 := hn
  unfold maxLen at hmp1
  obtain ⟨i0a, hi_, hz0, hz1, hz2⟩ := info_parts infInt
  have HIa := hide hi_
  have HZ0a := hide hz0
  have HZ1a := hide hz1
  have HZ2a := hide hz2
  clear hi_ hz0 hz1 hz2
  obtain ⟨i0b, hi_, hz0, hz1, hz2⟩ := info_parts infTrmMono
  have HIb := hide hi_
  have HZ0b := hide hz0
  have HZ1b := hide hz1
  have HZ2b := hide hz2
  clear hi_ hz0 hz1 hz2
  have hbl := blk_len p.monos
  go_enter Try.func57, Try.ntmps57
  go_upto_region 1 with fail
  have he0 : Ext w ((w.alloc (Obj.cells #[(.slice Ap1 p.monos.length cp1)] 28)).alloc (Obj.cells #[.slice none 0 0] 28)) := (Ext.auto)
  have hs0 : w.heap.size + 2 ≤ (((w.alloc (Obj.cells #[(.slice Ap1 p.monos.length cp1)] 28)).alloc (Obj.cells #[.slice none 0 0] 28))).heap.size := by simp
  have hq0 := hide (show (((w.alloc (Obj.cells #[(.slice Ap1 p.monos.length cp1)] 28)).alloc (Obj.cells #[.slice none 0 0] 28))).heap.size = w.heap.size + 2 by simp)
  have hBp_0 : Bx ((w.alloc (Obj.cells #[(.slice Ap1 p.monos.length cp1)] 28)).alloc (Obj.cells #[.slice none 0 0] 28)) (w.heap.size) [(.slice Ap1 p.monos.length cp1)] := (by have := (Bx.alloc (Bx.new w #[(.slice Ap1 p.monos.length cp1)] 28) (by simp) #[.slice none 0 0] 28); simpa using this)
  have hFp_0 : ∀ oo, (((w.alloc (Obj.cells #[(.slice Ap1 p.monos.length cp1)] 28)).alloc (Obj.cells #[.slice none 0 0] 28))).frozen? ⟨w.heap.size, oo, none⟩ = false := fun oo => by simp
  have hBres_0 : Bx ((w.alloc (Obj.cells #[(.slice Ap1 p.monos.length cp1)] 28)).alloc (Obj.cells #[.slice none 0 0] 28)) (w.heap.size + 1) [.slice none 0 0] := (by have := (Bx.new (w.alloc (Obj.cells #[(.slice Ap1 p.monos.length cp1)] 28)) #[.slice none 0 0] 28); simpa using this)
  have hFres_0 : ∀ oo, (((w.alloc (Obj.cells #[(.slice Ap1 p.monos.length cp1)] 28)).alloc (Obj.cells #[.slice none 0 0] 28))).frozen? ⟨w.heap.size + 1, oo, none⟩ = false := fun oo => by simp
  generalize ((w.alloc (Obj.cells #[(.slice Ap1 p.monos.length cp1)] 28)).alloc (Obj.cells #[.slice none 0 0] 28)) = w0 at *
  go_upto_region 2 with fail
  have he1 : Ext w (w0.alloc (.cells #[.slice none 0 0] 28)) := Ext.hold he0
  have hx1 : Ext w0 (w0.alloc (.cells #[.slice none 0 0] 28)) := Ext.auto
  have hs1 : w0.heap.size + 1 ≤ ((w0.alloc (.cells #[.slice none 0 0] 28))).heap.size := by simp
  have hBp_1 : Bx (w0.alloc (.cells #[.slice none 0 0] 28)) (w.heap.size) [(.slice Ap1 p.monos.length cp1)] := Bx.hold hBp_0
  have hFp_1 : ∀ oo, (w0.alloc (.cells #[.slice none 0 0] 28)).frozen? ⟨w.heap.size, oo, none⟩ = false := fz_hold hFp_0
  have hBres_1 : Bx (w0.alloc (.cells #[.slice none 0 0] 28)) (w.heap.size + 1) [.slice none 0 0] := Bx.hold hBres_0
  have hFres_1 : ∀ oo, (w0.alloc (.cells #[.slice none 0 0] 28)).frozen? ⟨w.heap.size + 1, oo, none⟩ = false := fz_hold hFres_0
  have hBx_1 : Bx (w0.alloc (.cells #[.slice none 0 0] 28)) (w0.heap.size) [.slice none 0 0] := Bx.new w0 #[.slice none 0 0] 28
  have hFx_1 : ∀ oo, (w0.alloc (.cells #[.slice none 0 0] 28)).frozen? ⟨w0.heap.size, oo, none⟩ = false := fz_new w0 #[.slice none 0 0] 28 rfl
  generalize (w0.alloc (.cells #[.slice none 0 0] 28)) = w1 at *
  clear hBp_0 hFp_0 hBres_0 hFres_0
  have yp : w.heap.size < w1.heap.size := by omega
  have xp0 : w1.cell? ⟨w.heap.size, 0, none⟩ = some ((.slice Ap1 p.monos.length cp1)) := hBp_1 0 _ rfl
  go_wp2
  clear xp0 yp
  go_loopw [9] (fun i wz => ∃ (k : Nat) (v : Value) (Fs : List (List Nat)) (xs : List Value), k ≤ p.monos.length ∧ i = .int .i64 k ∧ App w wz 79 v (p.monos.take k) Fs xs ∧ (∀ q, v.ownBlock = some q → w1.heap.size ≤ q) ∧ (∀ z, z ∈ Fs.flatten → w1.heap.size ≤ z) ∧ Ext w wz ∧ w1.heap.size ≤ wz.heap.size ∧ Bx wz (w0.heap.size) [v] ∧ (∀ oo, wz.frozen? ⟨w0.heap.size, oo, none⟩ = false) ∧ Bx wz (w.heap.size + 1) [.slice none 0 0] ∧ (∀ oo, wz.frozen? ⟨w.heap.size + 1, oo, none⟩ = false)) (fun i _ => p.monos.length - (intOf i).toNat)
  case atStart => exact ⟨0, _, _, _, by omega, rfl, (App.nil w 79).call he1, fun q hq => by simp [Value.ownBlock] at hq, fun z hz => by simp at hz, he1, by omega, hBx_1, hFx_1, hBres_1, hFres_1⟩
  case round =>
    obtain ⟨w2, hwr⟩ : ∃ w2 : World, w2 = wr := ⟨_, rfl⟩
    subst hwr
    clear hBp_1 hFp_1 hBres_1 hFres_1 hBx_1 hFx_1
    obtain ⟨k, v, Fs, xs, hk, rfl, hA, hvo, hfo, he2, hs2, hBx_2, hFx_2, hBres_2, hFres_2⟩ := hrel
    by_cases hlt : k < p.monos.length
    · 
      obtain ⟨Lk, hLk⟩ : ∃ Lk, Lk = p.monos.take k := ⟨_, rfl⟩
      rw [← hLk] at hA
      have hLkl : Lk.length ≤ k := by rw [hLk]; simp; omega
      have HLk := hide hLk
      clear hLk
      obtain ⟨F7, hO7, -⟩ := hA.done
      obtain ⟨A7, c7, rfl, -, -⟩ := hO7.sl.form
      clear hO7
      obtain ⟨b, off, va, rfl, hbo, hk0, hva, e0, e1⟩ := at_TrmMono (hp1.ext he2) hlt
      obtain ⟨Ava, cva, rfl, -, -⟩ := hva.form
      have hbo1 : b < w2.heap.size := hbo
      have z0 : (0 : Int) ≤ (k : Int) := by omega
      have z1 : (k : Int) < (p.monos.length : Int) := by omega
      have hbk := blk_el p.monos k hlt
      have hba : Bulk.blk p.monos[k] = Bulk.blk p.monos[k].atoms := rfl
      have hbb := blk_len p.monos[k].atoms
      have HT := hide (List.take_succ_eq_append_getElem hlt)
      have hak : p.monos[k].atoms.length ≤ 4194304 := by omega
      clear hba hbb
      go_upto_region 5 with fail
      clear e0 e1
      have he3 : Ext w (w2.alloc (.cells #[.int .i64 p.monos[k].coef, .slice Ava p.monos[k].atoms.length cva] 79)) := Ext.hold he2
      have hx3 : Ext w2 (w2.alloc (.cells #[.int .i64 p.monos[k].coef, .slice Ava p.monos[k].atoms.length cva] 79)) := Ext.auto
      have hs3 : w2.heap.size + 1 ≤ ((w2.alloc (.cells #[.int .i64 p.monos[k].coef, .slice Ava p.monos[k].atoms.length cva] 79))).heap.size := by simp
      have hBx_3 : Bx (w2.alloc (.cells #[.int .i64 p.monos[k].coef, .slice Ava p.monos[k].atoms.length cva] 79)) (w0.heap.size) [.slice A7 Lk.length c7] := Bx.hold hBx_2
      have hFx_3 : ∀ oo, (w2.alloc (.cells #[.int .i64 p.monos[k].coef, .slice Ava p.monos[k].atoms.length cva] 79)).frozen? ⟨w0.heap.size, oo, none⟩ = false := fz_hold hFx_2
      have hBres_3 : Bx (w2.alloc (.cells #[.int .i64 p.monos[k].coef, .slice Ava p.monos[k].atoms.length cva] 79)) (w.heap.size + 1) [.slice none 0 0] := Bx.hold hBres_2
      have hFres_3 : ∀ oo, (w2.alloc (.cells #[.int .i64 p.monos[k].coef, .slice Ava p.monos[k].atoms.length cva] 79)).frozen? ⟨w.heap.size + 1, oo, none⟩ = false := fz_hold hFres_2
      have hBm_3 : Bx (w2.alloc (.cells #[.int .i64 p.monos[k].coef, .slice Ava p.monos[k].atoms.length cva] 79)) (w2.heap.size) [.int .i64 p.monos[k].coef, .slice Ava p.monos[k].atoms.length cva] := Bx.new w2 #[.int .i64 p.monos[k].coef, .slice Ava p.monos[k].atoms.length cva] 79
      have hFm_3 : ∀ oo, (w2.alloc (.cells #[.int .i64 p.monos[k].coef, .slice Ava p.monos[k].atoms.length cva] 79)).frozen? ⟨w2.heap.size, oo, none⟩ = false := fz_new w2 #[.int .i64 p.monos[k].coef, .slice Ava p.monos[k].atoms.length cva] 79 rfl
      generalize (w2.alloc (.cells #[.int .i64 p.monos[k].coef, .slice Ava p.monos[k].atoms.length cva] 79)) = w3 at *
      clear hBx_2 hFx_2 hBres_2 hFres_2
      have hvm := hva.ext hx3
      have yx : w0.heap.size < w3.heap.size := by omega
      have xx0 : w3.cell? ⟨w0.heap.size, 0, none⟩ = some (.slice A7 Lk.length c7) := hBx_3 0 _ rfl
      have ym : w2.heap.size < w3.heap.size := by omega
      have xm0 := hBm_3 0 _ rfl
      have xm1 := hBm_3 1 _ rfl
      go_upto_region 5 with fail
      have hS : ∀ w', Ext w3 w' → ∀ bb oo, bb < w3.heap.size → w'.cell? ⟨bb, oo, none⟩ = w3.cell? ⟨bb, oo, none⟩ := fun w' hx bb oo hb => hx.cell hb
      refine wp_region_plan (fun w' => Ext w3 w') 9 (.float 0 (.float 1 (.float 2 (.float 3 (.float 4 (.float 5 (.chain 6 (.float 7 (.chain 8 (.tail 9)))))))))) (by kernel_rfl) (by kernel_rfl) (Ext.refl _).drew ?_
      iterate 6 ((refine Plan.float_step (v := ?_) rfl (by rfl) (fun _ _ _ h => h) (fun w' hSw => ?_) ?_; rotate_left; · (go_simp; try with_reducible rfl)); (try simp only [Act.put, List.setIfInBounds_toArray, List.set_cons_zero, List.set_cons_succ]))
      refine Plan.chain_step rfl (fun K hK => ?_)
      go_simp
      refine (cloneInts_any p.monos[k].atoms _ _ (hvm.ext Ext.auto) hak).mono ?_
      rintro e wb ⟨r1, F1, rfl, hO1, hF1_, hy⟩
      have hxb : Ext w3 wb := Ext.trans Ext.auto hy
      have hF1 : Fr w3 wb F1 := hF1_.mk1 (by simp) (Nat.le_refl _)
      clear hF1_ hy
      obtain ⟨B1, d1, rfl, -, -⟩ := hO1.sl.form
      refine hK.out _ _ hxb ?_
      clear hK
      (try simp only [Act.put, List.setIfInBounds_toArray, List.set_cons_zero, List.set_cons_succ])
      have hsb := hxb.size
      have hBZ : Bx (wb.alloc (.cells #[.int .i64 p.monos[k].coef, .slice B1 p.monos[k].atoms.length d1] 79)) (w0.heap.size) [.slice A7 Lk.length c7] := Bx.alloc (hxb.bx hBx_3 (by omega)) (by omega) _ _
      have hFZ : ∀ oo, (wb.alloc (.cells #[.int .i64 p.monos[k].coef, .slice B1 p.monos[k].atoms.length d1] 79)).frozen? ⟨w0.heap.size, oo, none⟩ = false := fz_alloc (fun oo => (hxb.frozen (by omega)).trans (hFx_3 oo)) (by omega) _
      (refine Plan.float_step (v := ?_) rfl (by rfl) (fun _ _ _ h => h) (fun w' hSw => ?_) ?_; rotate_left; · (go_simp; try with_reducible rfl)); (try simp only [Act.put, List.setIfInBounds_toArray, List.set_cons_zero, List.set_cons_succ])
      refine Plan.chain_step rfl (fun K hK => ?_)
      go_simp
      refine hK.out _ _ (hxb.alloc _) ?_
      clear hK
      (try simp only [Act.put, List.setIfInBounds_toArray, List.set_cons_zero, List.set_cons_succ])
      refine Plan.tail_step ?_
      simp only [List.drop_succ_cons, List.drop_zero]
      clear hS
      refine wpList_append_push2 (w0 := w) (wr := w2) rfl _ _ 26 rfl i0b _ 32 Try.underlying26 HIb.out HZ0b.out HZ1b.out HZ2b.out rfl (by decide) hA rfl (p.monos[k]) #[.int .i64 p.monos[k].coef, .slice B1 p.monos[k].atoms.length d1] 79 (F1) _ rfl (hx3.trans hxb) ⟨_, rfl, hk0, hO1⟩ (hF1.down hx3) (by repeat (first | (exact fun _ h => absurd h (List.not_mem_nil)) | (refine List.forall_mem_cons.2 ⟨rfl, ?_⟩))) (by unfold maxLen; omega) (by omega) ?_
      intro v' wq9 xs' hA9 hg9 hb9
      have hz9 := hg9.size
      have hne9 : some (w0.heap.size) ≠ (Value.ownBlock (.slice A7 Lk.length c7)) := fun q => by have := hvo _ q.symm; omega
      have hBx9 := (show Bx (wb.alloc (.cells #[.int .i64 p.monos[k].coef, .slice B1 p.monos[k].atoms.length d1] 79)) (w0.heap.size) [.slice A7 Lk.length c7] from hBZ).grown hg9 (by simp; omega) hne9
      have hFx9 := fz_grown (show ∀ oo, (wb.alloc (.cells #[.int .i64 p.monos[k].coef, .slice B1 p.monos[k].atoms.length d1] 79)).frozen? ⟨w0.heap.size, oo, none⟩ = false from hFZ) hg9 (by simp; omega) hne9
      have yz9 : w0.heap.size < wq9.heap.size := by simp at hz9; omega
      have xz0 := hBx9 0 _ rfl
      have hvo9 : ∀ q, v'.ownBlock = some q → w1.heap.size ≤ q := fun q hq => by
        rcases hb9 with hb | hb
        · exact hvo q (hb ▸ hq)
        · rw [hb] at hq; injection hq with hq; simp at hq; omega
      obtain ⟨L9, hL9⟩ : ∃ L9, L9 = Lk ++ [p.monos[k]] := ⟨_, rfl⟩
      rw [← hL9] at hA9
      have HL9 := hide hL9
      clear hL9
      obtain ⟨F9, hO9, -⟩ := hA9.done
      obtain ⟨A9, c9, rfl, -, -⟩ := hO9.sl.form
      clear hO9
      have hsz9 : w3.heap.size ≤ wq9.heap.size := by simp at hz9; omega
      go_wp2
      have hfo9 : ∀ z, z ∈ (Fs ++ [F1]).flatten → w1.heap.size ≤ z := fun z hz => by
        simp at hz
        rcases hz with hz | hz
        · exact hfo z (by simpa using hz)
        · have := (hF1.2 z hz).1; omega
      have hA8 := App.set hA9 (p := ⟨w0.heap.size, 0, none⟩) (.slice A9 L9.length c9) (fun q => by have := hvo9 _ q; simp at this; omega) (fun hm => by have := hfo9 _ hm; simp at this; omega) (by simp; omega)
      have hBx8 : Bx (wq9.setCell ⟨w0.heap.size, 0, none⟩ (.slice A9 L9.length c9)) (w0.heap.size) [.slice A9 L9.length c9] := by have := Bx.put hBx9 (j := 0) (by simp) (.slice A9 L9.length c9); simpa using this
      have hBr8 : Bx (wq9.setCell ⟨w0.heap.size, 0, none⟩ (.slice A9 L9.length c9)) (w.heap.size + 1) [.slice none 0 0] := Bx.setCell ((show Bx (wb.alloc _) _ _ from Bx.alloc (hxb.bx hBres_3 (by omega)) (by omega) _ _).grown hg9 (by simp; omega) (fun q => by have := hvo _ q.symm; omega)) (by simp; omega) _
      have hFr8 : ∀ oo, (wq9.setCell ⟨w0.heap.size, 0, none⟩ (.slice A9 L9.length c9)).frozen? ⟨w.heap.size + 1, oo, none⟩ = false := fz_set (fz_grown (fz_alloc (fun oo => (hxb.frozen (by omega)).trans (hFres_3 oo)) (by omega) _) hg9 (by simp; omega) (fun q => by have := hvo _ q.symm; omega)) _ _
      go_roundw
      case rel => exact ⟨k + 1, _, _, _, by omega, by go_num, by rw [HT.out, ← HLk.out, ← HL9.out]; exact hA8, hvo9, hfo9, hA8.ext, by simp; omega, hBx8, fz_set hFx9 _ _, hBr8, hFr8⟩
      case measure => simp [intOf]; omega
    · 
      obtain rfl : k = p.monos.length := by omega
      rw [List.take_length] at hA
      obtain ⟨F, hO, hF, hOut_⟩ := App.doneLo hA hvo hfo
      have hO' := hO
      obtain ⟨B9, d9, rfl, -, -⟩ := hO.sl.form
      have yx : w0.heap.size < w2.heap.size := by omega
      have xx0 : w2.cell? ⟨w0.heap.size, 0, none⟩ = some (.slice B9 p.monos.length d9) := hBx_2 0 _ rfl
      have yres : w.heap.size + 1 < w2.heap.size := by omega
      have xres0 : w2.cell? ⟨w.heap.size + 1, 0, none⟩ = some (.slice none 0 0) := hBres_2 0 _ rfl
      have fres := hFres_2
      go_wp2
      refine bodyPost_ret (v := .agg #[.slice B9 p.monos.length d9]) (by simp [results, Try.results57, go_sem, xres0]) rfl ⟨_, F, rfl, OwnSl.stay hO (fun z hz => by
          have q := hF.2 z hz; have h1 := hOut_ z hz
          repeat (first | rw [heap_set _ _ _ _ (by show _ ≠ z; omega)] | rw [heap_set _ _ _ _ (by simp; omega)])), hF.mk1 (Nat.le_refl _) (by simp), Ext.hold he2⟩

end Go.Proofs.Ytmbclopkopfngaa
