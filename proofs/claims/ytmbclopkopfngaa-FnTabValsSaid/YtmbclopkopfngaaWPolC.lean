/-
  PolC, Read, Rd, PutL, ByteLib
-/
import Derived.Test.YtmbclopkopfngaaWRegLib
import Derived.Test.YtmbclopkopfngaaWCertLib
import Derived.Test.YtmbclopkopfngaaWRowLib
import Derived.Test.YtmbclopkopfngaaWAppLib
import Derived.Test.YtmbclopkopfngaaWLib
import Derived.Test.YtmbclopkopfngaaWTy
import Derived.Deep.DeepCutAuto
import Derived.ProofKit
import Derived.OpenShut
import Derived.Lib.SmallJoins
import Derived.Deep.Slices
import Derived.Test.YtmbclopkopfngaaRows
import Derived.Deep.AppendSrc
namespace Go.Proofs.Ytmbclopkopfngaa
open Go.RowKit

set_option linter.unusedVariables false
set_option linter.unusedSimpArgs false
set_option maxRecDepth 100000

theorem App.doneLo {α : Type} [Own α] {w wr : World} {e : TypeId} {v : Value} {l : List α} {Fs : List (List Nat)} {xs : List Value} {lo : Nat} (h : App w wr e v l Fs xs) (hv : ∀ q, v.ownBlock = some q → lo ≤ q) (hf : ∀ z, z ∈ Fs.flatten → lo ≤ z) : ∃ F, OwnSl wr v l F ∧ Fr w wr F ∧ ∀ z, z ∈ F → lo ≤ z := by
  rcases h.row.2 with ⟨rfl, hn⟩ | ⟨g, cap, cur, rfl, hb, hh, hnc, hcm, hcs, htake⟩
  · have : l = [] := List.eq_nil_of_length_eq_zero hn
    subst this
    exact ⟨[], OwnSl.nil _, Fr.nil _ _, fun z hz => by simp at hz⟩
  · by_cases hl : l = []
    · subst hl
      exact ⟨[], ⟨_, cap, rfl, hnc, hcm, fun h => by simp at h, fun _ => rfl, fun h => absurd rfl h⟩, Fr.nil _ _, fun z hz => by simp at hz⟩
    · have hgl : g < wr.heap.size := by
        rcases Nat.lt_or_ge g wr.heap.size with hlt | hge
        · exact hlt
        · rw [Array.getElem?_eq_none hge] at hh; cases hh
      refine ⟨g :: Fs.flatten, ⟨_, cap, rfl, hnc, hcm, fun h => by simp at h, fun h => absurd h hl, fun _ => ⟨g, 0, Fs, rfl, rfl, h.flen, fun o => by simp [World.frozen?, hh], fun i a Fi ha hf => ?_⟩⟩, ⟨List.nodup_cons.2 ⟨h.apart g rfl, h.fr.1⟩, fun b hm => ?_⟩, fun z hz => by
        rcases List.mem_cons.1 hz with rfl | hz
        · exact hv z rfl
        · exact hf z hz⟩
      · obtain ⟨vs, h1, h2⟩ := h.els i a Fi ha hf
        refine ⟨vs, h1, fun j u hu => ?_⟩
        have h3 := h2 j u hu
        rw [← htake] at h3
        rw [Nat.zero_add]
        rw [List.getElem?_take] at h3
        split at h3
        · simp [World.cell?, hh]
          simpa using h3
        · simp at h3
      · rcases List.mem_cons.1 hm with rfl | hm
        · exact ⟨hb, hgl⟩
        · exact h.fr.2 b hm

set_option maxHeartbeats 16000000 in
theorem l4Copy_any (l : List TrmMono) (vl : Value) (w : World) (hl : Sl w (Old w) vl l) (hn : Bulk.blk l ≤ 4194304) :
    Calls Try.prog 82 #[vl] w fun e w' => ∃ r F, e = .returned (.agg #[r]) ∧ OwnSl w' r l F ∧ Fr w w' F ∧ Ext w w' := by
  obtain ⟨Al, cl, rfl, hll, hml⟩ := hl.form
  have hnl : Bulk.blk l ≤ 4194304 := hn
  unfold maxLen at hml
  obtain ⟨i0a, hi_, hz0, hz1, hz2⟩ := info_parts infInt
  have HIa := hide hi_
  have HZ0a := hide hz0
  have HZ1a := hide hz1
  have HZ2a := hide hz2
  clear hi_ hz0 hz1 hz2
  obtain ⟨i0b, hi_, hz0, hz1, hz2⟩ := info_parts infTrmMono
  have HIb := hide hi_
  have HZ0b := hide hz0
  have HZ1b := hide hz1
  have HZ2b := hide hz2
  clear hi_ hz0 hz1 hz2
  have hbl := blk_len l
  go_enter Try.func82, Try.ntmps82
  go_upto_region 1 with fail
  have he0 : Ext w (w.alloc (Obj.cells #[.slice none 0 0] 28)) := (Ext.auto)
  have hs0 : w.heap.size + 1 ≤ ((w.alloc (Obj.cells #[.slice none 0 0] 28))).heap.size := by simp
  have hq0 := hide (show ((w.alloc (Obj.cells #[.slice none 0 0] 28))).heap.size = w.heap.size + 1 by simp)
  have hBres_0 : Bx (w.alloc (Obj.cells #[.slice none 0 0] 28)) (w.heap.size) [.slice none 0 0] := (by have := (Bx.new w #[.slice none 0 0] 28); simpa using this)
  have hFres_0 : ∀ oo, ((w.alloc (Obj.cells #[.slice none 0 0] 28))).frozen? ⟨w.heap.size, oo, none⟩ = false := fun oo => by simp
  generalize (w.alloc (Obj.cells #[.slice none 0 0] 28)) = w0 at *
  go_upto_region 2 with fail
  have he1 : Ext w (w0.alloc (.cells #[.slice none 0 0] 28)) := Ext.hold he0
  have hx1 : Ext w0 (w0.alloc (.cells #[.slice none 0 0] 28)) := Ext.auto
  have hs1 : w0.heap.size + 1 ≤ ((w0.alloc (.cells #[.slice none 0 0] 28))).heap.size := by simp
  have hBres_1 : Bx (w0.alloc (.cells #[.slice none 0 0] 28)) (w.heap.size) [.slice none 0 0] := Bx.hold hBres_0
  have hFres_1 : ∀ oo, (w0.alloc (.cells #[.slice none 0 0] 28)).frozen? ⟨w.heap.size, oo, none⟩ = false := fz_hold hFres_0
  have hBx_1 : Bx (w0.alloc (.cells #[.slice none 0 0] 28)) (w0.heap.size) [.slice none 0 0] := Bx.new w0 #[.slice none 0 0] 28
  have hFx_1 : ∀ oo, (w0.alloc (.cells #[.slice none 0 0] 28)).frozen? ⟨w0.heap.size, oo, none⟩ = false := fz_new w0 #[.slice none 0 0] 28 rfl
  generalize (w0.alloc (.cells #[.slice none 0 0] 28)) = w1 at *
  clear hBres_0 hFres_0
  go_wp2
  go_loopw [4] (fun i wz => ∃ (k : Nat) (v : Value) (Fs : List (List Nat)) (xs : List Value), k ≤ l.length ∧ i = .int .i64 k ∧ App w wz 79 v (l.take k) Fs xs ∧ (∀ q, v.ownBlock = some q → w1.heap.size ≤ q) ∧ (∀ z, z ∈ Fs.flatten → w1.heap.size ≤ z) ∧ Ext w wz ∧ w1.heap.size ≤ wz.heap.size ∧ Bx wz (w0.heap.size) [v] ∧ (∀ oo, wz.frozen? ⟨w0.heap.size, oo, none⟩ = false) ∧ Bx wz (w.heap.size) [.slice none 0 0] ∧ (∀ oo, wz.frozen? ⟨w.heap.size, oo, none⟩ = false)) (fun i _ => l.length - (intOf i).toNat)
  case atStart => exact ⟨0, _, _, _, by omega, rfl, (App.nil w 79).call he1, fun q hq => by simp [Value.ownBlock] at hq, fun z hz => by simp at hz, he1, by omega, hBx_1, hFx_1, hBres_1, hFres_1⟩
  case round =>
    obtain ⟨w2, hwr⟩ : ∃ w2 : World, w2 = wr := ⟨_, rfl⟩
    subst hwr
    clear hBres_1 hFres_1 hBx_1 hFx_1
    obtain ⟨k, v, Fs, xs, hk, rfl, hA, hvo, hfo, he2, hs2, hBx_2, hFx_2, hBres_2, hFres_2⟩ := hrel
    by_cases hlt : k < l.length
    · 
      obtain ⟨Lk, hLk⟩ : ∃ Lk, Lk = l.take k := ⟨_, rfl⟩
      rw [← hLk] at hA
      have hLkl : Lk.length ≤ k := by rw [hLk]; simp; omega
      have HLk := hide hLk
      clear hLk
      obtain ⟨F7, hO7, -⟩ := hA.done
      obtain ⟨A7, c7, rfl, -, -⟩ := hO7.sl.form
      clear hO7
      obtain ⟨b, off, va, rfl, hbo, hk0, hva, e0, e1⟩ := at_TrmMono (hl.ext he2) hlt
      obtain ⟨Ava, cva, rfl, -, -⟩ := hva.form
      have hbo1 : b < w2.heap.size := hbo
      have z0 : (0 : Int) ≤ (k : Int) := by omega
      have z1 : (k : Int) < (l.length : Int) := by omega
      have hbk := blk_el l k hlt
      have hba : Bulk.blk l[k] = Bulk.blk l[k].atoms := rfl
      have hbb := blk_len l[k].atoms
      have HT := hide (List.take_succ_eq_append_getElem hlt)
      have hak : l[k].atoms.length ≤ 4194304 := by omega
      clear hba hbb
      have yx : w0.heap.size < w2.heap.size := by omega
      have xx0 : w2.cell? ⟨w0.heap.size, 0, none⟩ = some (.slice A7 Lk.length c7) := hBx_2 0 _ rfl
      go_upto_region 5 with fail
      have hS : ∀ w', Ext w2 w' → ∀ bb oo, bb < w2.heap.size → w'.cell? ⟨bb, oo, none⟩ = w2.cell? ⟨bb, oo, none⟩ := fun w' hx bb oo hb => hx.cell hb
      refine wp_region_plan (fun w' => Ext w2 w') 16 (.float 0 (.float 1 (.float 2 (.float 3 (.float 4 (.float 5 (.float 6 (.float 8 (.float 9 (.float 10 (.float 11 (.float 12 (.chain 7 (.chain 13 (.float 14 (.chain 15 (.tail 16))))))))))))))))) (by kernel_rfl) (by kernel_rfl) (Ext.refl _).drew ?_
      iterate 12 ((refine Plan.float_step (v := ?_) rfl (by rfl) (fun _ _ _ h => h) (fun w' hSw => ?_) ?_; rotate_left; · (go_simp; try with_reducible rfl)); (try simp only [Act.put, List.setIfInBounds_toArray, List.set_cons_zero, List.set_cons_succ]))
      refine Plan.chain_step rfl (fun K hK => ?_)
      go_simp
      refine hK.out _ _ (show Ext w2 (w2.alloc (.cells #[] 3)).drew from Ext.auto) ?_
      clear hK
      (try simp only [Act.put, List.setIfInBounds_toArray, List.set_cons_zero, List.set_cons_succ])
      have hI0 : App w2 (w2.alloc (.cells #[] 3)).drew 3 (.slice (some ⟨w2.heap.size, 0, none⟩) 0 0) ([] : List Int) [] [] := (App.emptyAt w2 3 _ rfl).call (Ext.refl _).drew
      have hsI : w2.heap.size < ((w2.alloc (.cells #[] 3)).drew).heap.size := by simp
      have hvI := hva.ext (show Ext w2 (w2.alloc (.cells #[] 3)).drew from Ext.auto)
      have hxI : Ext w2 (w2.alloc (.cells #[] 3)).drew := Ext.auto
      generalize (w2.alloc (.cells #[] 3)).drew = wi at *
      refine Plan.chain_step rfl (fun K hK => ?_)
      refine wp_append_flat (α := Int) (w0 := w2) _ _ 39 rfl i0a _ 8 Try.underlying39 HIa.out HZ0a.out HZ1a.out HZ2a.out rfl hI0 rfl _ l[k].atoms (Old w2) rfl (hva.keep (Ext.old hxI) (fun _ h => h)) (by simp [maxLen]; omega) (by simp; omega) ?_
      intro v' wb Fs' xs' hAa hgA
      obtain ⟨F1, hO1, hF1⟩ := hAa.done
      simp only [List.nil_append] at hO1
      obtain ⟨B1, d1, rfl, -, -⟩ := hO1.sl.form
      have hxb : Ext w2 wb := hAa.ext
      clear hAa hgA
      refine hK.out _ _ hxb ?_
      clear hK
      (try simp only [Act.put, List.setIfInBounds_toArray, List.set_cons_zero, List.set_cons_succ])
      have hsb := hxb.size
      have hBZ : Bx (wb.alloc (.cells #[.int .i64 l[k].coef, .slice B1 l[k].atoms.length d1] 79)) (w0.heap.size) [.slice A7 Lk.length c7] := Bx.alloc (hxb.bx hBx_2 (by omega)) (by omega) _ _
      have hFZ : ∀ oo, (wb.alloc (.cells #[.int .i64 l[k].coef, .slice B1 l[k].atoms.length d1] 79)).frozen? ⟨w0.heap.size, oo, none⟩ = false := fz_alloc (fun oo => (hxb.frozen (by omega)).trans (hFx_2 oo)) (by omega) _
      (refine Plan.float_step (v := ?_) rfl (by rfl) (fun _ _ _ h => h) (fun w' hSw => ?_) ?_; rotate_left; · (go_simp; try with_reducible rfl)); (try simp only [Act.put, List.setIfInBounds_toArray, List.set_cons_zero, List.set_cons_succ])
      refine Plan.chain_step rfl (fun K hK => ?_)
      go_simp
      refine hK.out _ _ (hxb.alloc _) ?_
      clear hK
      (try simp only [Act.put, List.setIfInBounds_toArray, List.set_cons_zero, List.set_cons_succ])
      refine Plan.tail_step ?_
      simp only [List.drop_succ_cons, List.drop_zero]
      clear hS
      refine wpList_append_push2 (w0 := w) (wr := w2) rfl _ _ 26 rfl i0b _ 32 Try.underlying26 HIb.out HZ0b.out HZ1b.out HZ2b.out rfl (by decide) hA rfl (l[k]) #[.int .i64 l[k].coef, .slice B1 l[k].atoms.length d1] 79 (F1) _ rfl hxb ⟨_, rfl, hk0, hO1⟩ hF1 (by repeat (first | (exact fun _ h => absurd h (List.not_mem_nil)) | (refine List.forall_mem_cons.2 ⟨rfl, ?_⟩))) (by unfold maxLen; omega) (by omega) ?_
      intro v' wq9 xs' hA9 hg9 hb9
      have hz9 := hg9.size
      have hne9 : some (w0.heap.size) ≠ (Value.ownBlock (.slice A7 Lk.length c7)) := fun q => by have := hvo _ q.symm; omega
      have hBx9 := (show Bx (wb.alloc (.cells #[.int .i64 l[k].coef, .slice B1 l[k].atoms.length d1] 79)) (w0.heap.size) [.slice A7 Lk.length c7] from hBZ).grown hg9 (by simp; omega) hne9
      have hFx9 := fz_grown (show ∀ oo, (wb.alloc (.cells #[.int .i64 l[k].coef, .slice B1 l[k].atoms.length d1] 79)).frozen? ⟨w0.heap.size, oo, none⟩ = false from hFZ) hg9 (by simp; omega) hne9
      have yz9 : w0.heap.size < wq9.heap.size := by simp at hz9; omega
      have xz0 := hBx9 0 _ rfl
      have hvo9 : ∀ q, v'.ownBlock = some q → w1.heap.size ≤ q := fun q hq => by
        rcases hb9 with hb | hb
        · exact hvo q (hb ▸ hq)
        · rw [hb] at hq; injection hq with hq; simp at hq; omega
      obtain ⟨L9, hL9⟩ : ∃ L9, L9 = Lk ++ [l[k]] := ⟨_, rfl⟩
      rw [← hL9] at hA9
      have HL9 := hide hL9
      clear hL9
      obtain ⟨F9, hO9, -⟩ := hA9.done
      obtain ⟨A9, c9, rfl, -, -⟩ := hO9.sl.form
      clear hO9
      have hsz9 : w2.heap.size ≤ wq9.heap.size := by simp at hz9; omega
      go_wp2
      have hfo9 : ∀ z, z ∈ (Fs ++ [F1]).flatten → w1.heap.size ≤ z := fun z hz => by
        simp at hz
        rcases hz with hz | hz
        · exact hfo z (by simpa using hz)
        · have := (hF1.2 z hz).1; omega
      have hA8 := App.set hA9 (p := ⟨w0.heap.size, 0, none⟩) (.slice A9 L9.length c9) (fun q => by have := hvo9 _ q; simp at this; omega) (fun hm => by have := hfo9 _ hm; simp at this; omega) (by simp; omega)
      have hBx8 : Bx (wq9.setCell ⟨w0.heap.size, 0, none⟩ (.slice A9 L9.length c9)) (w0.heap.size) [.slice A9 L9.length c9] := by have := Bx.put hBx9 (j := 0) (by simp) (.slice A9 L9.length c9); simpa using this
      have hBr8 : Bx (wq9.setCell ⟨w0.heap.size, 0, none⟩ (.slice A9 L9.length c9)) (w.heap.size) [.slice none 0 0] := Bx.setCell ((show Bx (wb.alloc _) _ _ from Bx.alloc (hxb.bx hBres_2 (by omega)) (by omega) _ _).grown hg9 (by simp; omega) (fun q => by have := hvo _ q.symm; omega)) (by simp; omega) _
      have hFr8 : ∀ oo, (wq9.setCell ⟨w0.heap.size, 0, none⟩ (.slice A9 L9.length c9)).frozen? ⟨w.heap.size, oo, none⟩ = false := fz_set (fz_grown (fz_alloc (fun oo => (hxb.frozen (by omega)).trans (hFres_2 oo)) (by omega) _) hg9 (by simp; omega) (fun q => by have := hvo _ q.symm; omega)) _ _
      go_roundw
      case rel => exact ⟨k + 1, _, _, _, by omega, by go_num, by rw [HT.out, ← HLk.out, ← HL9.out]; exact hA8, hvo9, hfo9, hA8.ext, by simp; omega, hBx8, fz_set hFx9 _ _, hBr8, hFr8⟩
      case measure => simp [intOf]; omega
    · 
      obtain rfl : k = l.length := by omega
      rw [List.take_length] at hA
      obtain ⟨F, hO, hF, hOut_⟩ := App.doneLo hA hvo hfo
      have hO' := hO
      obtain ⟨B9, d9, rfl, -, -⟩ := hO.sl.form
      have yx : w0.heap.size < w2.heap.size := by omega
      have xx0 : w2.cell? ⟨w0.heap.size, 0, none⟩ = some (.slice B9 l.length d9) := hBx_2 0 _ rfl
      have yres : w.heap.size < w2.heap.size := by omega
      have xres0 : w2.cell? ⟨w.heap.size, 0, none⟩ = some (.slice none 0 0) := hBres_2 0 _ rfl
      have fres := hFres_2
      go_wp2
      refine bodyPost_ret (v := .agg #[.slice B9 l.length d9]) (by simp [results, Try.results82, go_sem, xres0]) rfl ⟨_, F, rfl, OwnSl.stay hO (fun z hz => by
          have q := hF.2 z hz; have h1 := hOut_ z hz
          repeat (first | rw [heap_set _ _ _ _ (by show _ ≠ z; omega)] | rw [heap_set _ _ _ _ (by simp; omega)])), hF.mk1 (Nat.le_refl _) (by simp), Ext.hold he2⟩

end Go.Proofs.Ytmbclopkopfngaa

namespace Go.Proofs.Ytmbclopkopfngaa
open Go.RowKit Go.ChangeShapes Go.WideShapes
set_option linter.unusedVariables false
set_option linter.unusedSimpArgs false

/-- Whatever can be read at a type reads as a value of a Lean type, in memory that is there. -/
def Rd (P : Program) (t : TypeId) (α : Type) [Rep α] : Prop :=
  P.cellsOf t = Rep.sz α ∧ 0 < Rep.sz α ∧ ∀ {H : Type} (enc : TypeId × Value → H) (w : World) (base : Nat) (spare : Nat → Bool) (held : Bool) (fuel : Nat) (cs : List Value) (x : DataW H × List MemPlace),
    DataW.trod enc P w base spare held fuel t cs = some x → ∃ a : α, Rep.rep w (Old w) cs a

theorem fits_of_wf {n : Int} (h : (Lit.int .i64 n).wf = true) : Fits n := by
  simpa [Lit.wf, IntKind.min, IntKind.max, IntKind.signed, IntKind.bits, Fits] using h
theorem Rd.int {P : Program} {t : TypeId} (ht : P.underlying t = some (.int .i64)) (hc : P.cellsOf t = 1) : Rd P t Int := by
  refine ⟨hc, Nat.one_pos, ?_⟩
  intro H enc w base spare held fuel cs x h
  obtain ⟨n, rfl, _, hw⟩ := DataW.trod_int ht h
  exact ⟨n, rfl, fits_of_wf hw⟩
theorem Rd.bool {P : Program} {t : TypeId} (ht : P.underlying t = some .bool) (hc : P.cellsOf t = 1) : Rd P t Bool := by
  refine ⟨hc, Nat.one_pos, ?_⟩
  intro H enc w base spare held fuel cs x h
  obtain ⟨n, rfl, _⟩ := DataW.trod_bool ht h
  exact ⟨n, rfl⟩
theorem Rd.byte {P : Program} {t : TypeId} (ht : P.underlying t = some (.int .u8)) (hc : P.cellsOf t = 1) : Rd P t UInt8 := by
  refine ⟨hc, Nat.one_pos, ?_⟩
  intro H enc w base spare held fuel cs x h
  obtain ⟨n, rfl, _, hw⟩ := DataW.trod_int ht h
  have hb : 0 ≤ n ∧ n ≤ 255 := by simpa [Lit.wf, IntKind.min, IntKind.max, IntKind.signed, IntKind.bits] using hw
  refine ⟨UInt8.ofNat n.toNat, ?_⟩
  show [Value.int .u8 n] = [.int .u8 ((UInt8.ofNat n.toNat).toNat : Int)]
  have : ((UInt8.ofNat n.toNat).toNat : Int) = n := by
    simp [UInt8.toNat_ofNat']; omega
  rw [this]
theorem exists_list {α : Type} (n : Nat) (Q : Nat → α → Prop) (h : ∀ i, i < n → ∃ a, Q i a) : ∃ l : List α, l.length = n ∧ ∀ i a, l[i]? = some a → Q i a := by
  induction n with
  | zero => exact ⟨[], rfl, fun i a h => by simp at h⟩
  | succ n ih =>
    obtain ⟨l, hl, hq⟩ := ih fun i hi => h i (by omega)
    obtain ⟨a, ha⟩ := h n (by omega)
    refine ⟨l ++ [a], by simp [hl], fun i b hb => ?_⟩
    by_cases e : i < l.length
    · rw [List.getElem?_append_left e] at hb; exact hq i b hb
    · rw [List.getElem?_append_right (by omega)] at hb
      have e2 : i - l.length = 0 := by
        have := (List.getElem?_eq_some_iff.1 hb).1; simp at this; omega
      rw [e2] at hb
      simp at hb
      subst hb
      rw [show i = n by omega]; exact ha
theorem addr_add (b off i : Nat) : (⟨b, off, none⟩ : Addr).add i = ⟨b, off + i, none⟩ := by
  unfold Addr.add
  by_cases h : i = 0 <;> simp [h]
theorem Rd.slice {P : Program} {t e : TypeId} {α : Type} [Rep α] (ht : P.underlying t = some (.slice e)) (hc : P.cellsOf t = 1) (he : Rd P e α) : Rd P t (List α) := by
  refine ⟨hc, Nat.one_pos, ?_⟩
  intro H enc w base spare held fuel cs x h
  rcases DataW.trod_slice ht h with ⟨rfl, _⟩ | ⟨a, len, cap, elems, rest, n, _, rfl, _, hb, hl, hm, hlen, hel, _⟩
  · exact ⟨[], _, rfl, Sl.nil _ _⟩
  · have hel' : ∀ i, i < len → ∃ cs' x', w.cells? base (a.add (i * P.cellsOf e)) (P.cellsOf e) = some cs' ∧ DataW.trod enc P w base spare held n e cs' = some x' := by
      intro i hi
      have h1 := hel i hi
      rw [List.getElem?_eq_getElem (by omega)] at h1
      obtain ⟨cs', h2, h3⟩ := Option.bind_eq_some_iff.1 h1
      exact ⟨cs', _, h2, h3⟩
    by_cases h0 : len = 0
    · subst h0
      exact ⟨[], _, rfl, some a, cap, rfl, hl, hm, fun h => by simp at h, fun h => absurd rfl h⟩
    · have hspot : a.spot = none := by
        obtain ⟨cs', x', h2, _⟩ := hel' 0 (by omega)
        obtain ⟨_, h4, h5⟩ := World.cells?_some h2
        have h6 := h5 0 (by rw [he.1]; exact he.2.1)
        rw [List.getElem?_eq_getElem (by rw [h4, he.1]; exact he.2.1)] at h6
        cases hs : a.spot with
        | none => rfl
        | some s =>
          exfalso
          simp [Addr.add, World.cell?, hs] at h6
          split at h6 <;> simp at h6
      obtain ⟨b, off, sp⟩ := a
      simp only at hspot
      subst hspot
      have hblt : b < w.heap.size := by
        obtain ⟨cs', x', h2, _⟩ := hel' 0 (by omega)
        obtain ⟨_, h4, h5⟩ := World.cells?_some h2
        have h6 := h5 0 (by rw [he.1]; exact he.2.1)
        rw [List.getElem?_eq_getElem (by rw [h4, he.1]; exact he.2.1), addr_add, addr_add] at h6
        exact cell_lt h6
      obtain ⟨l, hl1, hl2⟩ := exists_list len (fun i a => At w (Old w) b off i a) (fun i hi => by
        obtain ⟨cs', x', h2, h3⟩ := hel' i hi
        obtain ⟨_, h4, h5⟩ := World.cells?_some h2
        obtain ⟨v, hv⟩ := he.2.2 enc w base spare held n cs' x' h3
        refine ⟨v, cs', hv, fun j u hu => ?_⟩
        have h6 := h5 j (by rw [← h4]; exact (List.getElem?_eq_some_iff.1 hu).1)
        rw [addr_add, addr_add, hu, he.1] at h6
        rw [← Nat.add_assoc]
        exact h6)
      refine ⟨l, _, rfl, some ⟨b, off, none⟩, cap, by rw [hl1], by omega, hm, fun h => by simp at h, fun _ => ⟨b, off, rfl, hblt, hl2⟩⟩
/-- 'post_of_same' (Derived/ChangeSame), asked of frozen ranges of blocks that were there alone. -/
theorem post_of_ext {H : Type} {enc : TypeId × Value → H} {P : Program} {f : Func} {s : ChangeSpec} {apart fresh handsOn again : Bool} {W W' : World} {args : Array Value} {v : Value} {ds gs : List (DataW H)} {before pa pv : List MemPlace}
    (hW : DataW.Whole enc P f.params.toList s.vars apart W args.toList ds gs before)
    (hres : ∀ (b : Nat) (sp : Nat → Bool) (hd : Bool), DataW.TrodAll enc P W' b sp hd f.resultTypes.toList (v.resultList f.resultTypes.size) (s.fn H (ds ++ gs)).results [])
    (hargs : ∀ sp : Nat → Bool, (∀ p ∈ before, sp p.block = true) → DataW.TrodAll enc P W' 0 sp true f.params.toList args.toList (s.fn H (ds ++ gs)).args pa)
    (hvars : ∀ sp : Nat → Bool, (∀ p ∈ before, sp p.block = true) → DataW.TrodVars enc P W' sp s.vars (s.fn H (ds ++ gs)).vars pv)
    (hps : before = pa ++ pv) (hx : Ext W W')
    (hok : ∀ (j : Nat) (t : TypeId) (r : Value), f.resultTypes[j]? = some t → (v.resultList f.resultTypes.size)[j]? = some r → Value.okWide P W' .any 0 t r) :
    s.post enc P f apart fresh handsOn again W args v W' := by
  have hlt := fun p (hp : p ∈ before) => hW.lt p hp
  have hold : ∀ p ∈ before, (fun b => decide (b < W.heap.size)) p.block = true := fun p hp => by simpa using hlt p hp
  refine ⟨ds, gs, before, [], pa, pv, hW, hres _ _ _, hargs _ hold, hvars _ hold, World.keptBut_mono (fun p hp => ⟨hp, ?_⟩) (hx.below.frame (· ∈ before)), fun _ => ?_⟩
  · rw [hps, List.mem_append] at hp
    exact Or.inr hp
  · obtain ⟨_, _, _, _, _, hz, hn⟩ := hW
    refine ⟨hok, _, _, ([] ++ pa) ++ pv, ⟨[] ++ pa, pv, trodAll_append (hargs _ (fun _ _ => rfl)) (hres _ _ _), hvars _ (fun _ _ => rfl), rfl, ?_, ?_⟩, ?_⟩
    · intro b off hp
      have hm : MemPlace.cell b off ∈ before := by rw [hps]; simpa using hp
      rw [hx.fz _ (hlt _ hm)]
      exact hz b off hm
    · intro ha
      have := hn ha
      rw [hps] at this
      simpa using this
    · intro p hp _
      rw [hps]
      simpa using hp

end Go.Proofs.Ytmbclopkopfngaa

namespace Go.Proofs.Ytmbclopkopfngaa
open Go.RowKit
open Go.ChangeShapes Go.WideShapes
set_option linter.unusedVariables false
set_option linter.unusedSimpArgs false
set_option maxRecDepth 100000

theorem rd_UInt8 : Rd Try.prog 5 UInt8 := Rd.byte Try.underlying5 (by kernel_rfl)

theorem rd_ListUInt8 : Rd Try.prog 22 (List UInt8) := Rd.slice Try.underlying22 (by kernel_rfl) rd_UInt8

end Go.Proofs.Ytmbclopkopfngaa

namespace Go.Proofs.Ytmbclopkopfngaa
open Go.RowKit

set_option linter.unusedVariables false
set_option linter.unusedSimpArgs false
set_option maxRecDepth 100000

/-- Nothing but one block has turned. -/
def Far (b : Nat) (w w' : World) : Prop := w.heap.size ≤ w'.heap.size ∧ ∀ k o, k ≠ b → k < w.heap.size → w'.cell? ⟨k, o, none⟩ = w.cell? ⟨k, o, none⟩
theorem Far.drew (b : Nat) (w : World) : Far b w w.drew := ⟨Nat.le_refl _, fun _ _ _ _ => rfl⟩
theorem Far.set {b : Nat} {w w' : World} (h : Far b w w') (o : Nat) (u : Value) : Far b w (w'.setCell ⟨b, o, none⟩ u) :=
  ⟨by simpa using h.1, fun k oo hk hl => by rw [World.cell?_setCell_other _ _ _ _ (by intro e; injection e with e1; exact hk e1.symm)]; exact h.2 k oo hk hl⟩

end Go.Proofs.Ytmbclopkopfngaa

namespace Go.Proofs.Ytmbclopkopfngaa
open Go.RowKit
set_option linter.unusedVariables false
set_option linter.unusedSimpArgs false

section
variable {α : Type} [Flat α] {P : Program} {w0 w : World} {e : TypeId} {v : Value} {l : List α} {Fs : List (List Nat)} {xs : List Value}
end
/-- What lies in blocks that are there, but in one, is as it was. -/
def Near (o : Option Nat) (w w' : World) : Prop := w.heap.size ≤ w'.heap.size ∧ (∀ b, b < w.heap.size → some b ≠ o → w'.heap[b]? = w.heap[b]?)
theorem Near.refl (o : Option Nat) (w : World) : Near o w w := ⟨Nat.le_refl _, fun _ _ _ => rfl⟩
theorem Near.ext {o : Option Nat} {w w1 w2 : World} (h : Near o w w1) (k : Ext w1 w2) : Near o w w2 := ⟨Nat.le_trans h.1 k.size, fun b hb hne => (k.heap (Nat.lt_of_lt_of_le hb h.1)).trans (h.2 b hb hne)⟩
theorem Near.trans {o : Option Nat} {w w1 w2 : World} (h : Near o w w1) (k : Near o w1 w2) : Near o w w2 := ⟨Nat.le_trans h.1 k.1, fun b hb hne => (k.2 b (Nat.lt_of_lt_of_le hb h.1) hne).trans (h.2 b hb hne)⟩
theorem Near.grown {o : Option Nat} {w w' : World} (h : w.grownBy w' o) : Near o w w' := ⟨h.size, fun b hb hne => h.block b hb hne⟩
theorem Near.cell {o : Option Nat} {w w' : World} (h : Near o w w') {b oo : Nat} (hb : b < w.heap.size) (hne : some b ≠ o) : w'.cell? ⟨b, oo, none⟩ = w.cell? ⟨b, oo, none⟩ := World.cell?_of_block (w := w) (h.2 b hb hne)
/-- The own block stays, or is new. -/
def Moved (v v' : Value) (w : World) : Prop := v'.ownBlock = v.ownBlock ∨ ∃ m, v'.ownBlock = some m ∧ w.heap.size ≤ m
theorem Moved.ne {v v' : Value} {w : World} (h : Moved v v' w) {b : Nat} (hb : some b ≠ v.ownBlock) (hlt : b < w.heap.size) : some b ≠ v'.ownBlock := fun q => by
  rcases h with h | ⟨m, h, hm⟩
  · exact hb (q.trans h)
  · rw [h] at q; injection q with q; omega
theorem FRow.slAt {α : Type} [Flat α] {w : World} {b off : Nat} {l : List α} (h : FRow w b off l) {n c : Nat} (hn : n = l.length) (hc : l.length ≤ c) (hm : c ≤ maxLen) : Sl w (fun x => x = b) (.slice (some ⟨b, off, none⟩) n c) l := by
  subst hn
  refine ⟨_, c, rfl, hc, hm, fun h => by simp at h, fun _ => ⟨b, off, rfl, rfl, fun i a ha => ?_⟩⟩
  obtain ⟨vs, h1, h2⟩ := h.els i a ha
  exact ⟨vs, Flat.any h1, h2⟩
end Go.Proofs.Ytmbclopkopfngaa
