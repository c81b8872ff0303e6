/-
  The sum that is one atom: the reference and the program.
-/
import Derived.Test.YtdmbgljkogpmdaaPolC
import Derived.Test.YtdmbgljkogpmdaaWords
import Derived.Test.YtdmbgljkogpmdaaTabR
import Derived.Deep.DeepCutAuto
namespace Go.Proofs.Ytdmbgljkogpmdaa
open Go.RowKit

set_option linter.unusedVariables false
set_option linter.unusedSimpArgs false
set_option maxRecDepth 100000

theorem OwnSl.one {α : Type} [Own α] {w : World} {b : Nat} {vs : List Value} {a : α} {F : List Nat} (h : Own.own w vs a F) (hc : ∀ j u, vs[j]? = some u → w.cell? ⟨b, j, none⟩ = some u) (hf : ∀ o, w.frozen? ⟨b, o, none⟩ = false) : OwnSl w (.slice (some ⟨b, 0, none⟩) 1 1) [a] (b :: F) :=
  ⟨_, 1, rfl, Nat.le_refl _, by decide, fun h => (by cases h), fun h => (by cases h), fun _ => ⟨b, 0, [F], rfl, by simp, rfl, hf, fun i x Fi hx hF => by
    cases i with
    | zero =>
      simp at hx hF
      subst hx; subst hF
      exact ⟨vs, h, fun j u hu => by rw [Nat.zero_mul, Nat.zero_add, Nat.zero_add]; exact hc j u hu⟩
    | succ i => simp at hx⟩⟩
def polK (k : Int) : TrmPoly := ⟨[⟨1, [k]⟩]⟩
def regAtom (k : Int) : TabAtom := ⟨1, k, ⟨[]⟩, ⟨[]⟩⟩
def upL {α : Type} (f : Int → α) : Nat → List α
  | 0 => []
  | n + 1 => upL f n ++ [f (n : Int)]
def newTab : TabTab := ⟨upL regAtom 4⟩
def newRegs : List TrmPoly := upL polK 4
theorem upL_len {α : Type} (f : Int → α) : ∀ n, (upL f n).length = n
  | 0 => rfl
  | n + 1 => by rw [upL, List.length_append, upL_len]; rfl

theorem App.doneIn {α : Type} [Own α] {w wr : World} {e : TypeId} {v : Value} {l : List α} {Fs : List (List Nat)} {xs : List Value} {P : Nat → Prop} (h : App w wr e v l Fs xs) (hv : ∀ q, v.ownBlock = some q → P q) (hf : ∀ z, z ∈ Fs.flatten → P z) : ∃ F, OwnSl wr v l F ∧ Fr w wr F ∧ ∀ z, z ∈ F → P z := by
  rcases h.row.2 with ⟨rfl, hn⟩ | ⟨g, cap, cur, rfl, hb, hh, hnc, hcm, hcs, htake⟩
  · have : l = [] := List.eq_nil_of_length_eq_zero hn
    subst this
    exact ⟨[], OwnSl.nil _, Fr.nil _ _, fun z hz => by simp at hz⟩
  · by_cases hl : l = []
    · subst hl
      exact ⟨[], ⟨_, cap, rfl, hnc, hcm, fun h => by simp at h, fun _ => rfl, fun h => absurd rfl h⟩, Fr.nil _ _, fun z hz => by simp at hz⟩
    · have hgl : g < wr.heap.size := by
        rcases Nat.lt_or_ge g wr.heap.size with hlt | hge
        · exact hlt
        · rw [Array.getElem?_eq_none hge] at hh; cases hh
      refine ⟨g :: Fs.flatten, ⟨_, cap, rfl, hnc, hcm, fun h => by simp at h, fun h => absurd h hl, fun _ => ⟨g, 0, Fs, rfl, rfl, h.flen, fun o => by simp [World.frozen?, hh], fun i a Fi ha hf => ?_⟩⟩, ⟨List.nodup_cons.2 ⟨h.apart g rfl, h.fr.1⟩, fun b hm => ?_⟩, fun z hz => by
        rcases List.mem_cons.1 hz with rfl | hz
        · exact hv z rfl
        · exact hf z hz⟩
      · obtain ⟨vs, h1, h2⟩ := h.els i a Fi ha hf
        refine ⟨vs, h1, fun j u hu => ?_⟩
        have h3 := h2 j u hu
        rw [← htake] at h3
        rw [Nat.zero_add]
        rw [List.getElem?_take] at h3
        split at h3
        · simp [World.cell?, hh]
          simpa using h3
        · simp at h3
      · rcases List.mem_cons.1 hm with rfl | hm
        · exact ⟨hb, hgl⟩
        · exact h.fr.2 b hm

set_option maxHeartbeats 4000000 in
theorem specPolAtom_any (k : Int) (w : World)  (h0 : 0 ≤ k) (h1 : k ≤ 199) :
    Calls Try.prog 29 #[.int .i64 k] w fun e w' => ∃ r F, e = .returned (.agg #[r]) ∧ OwnSl w' r (polK k).monos F ∧ Fr w w' F ∧ Ext w w' := by
  have qi : inB k 0 199 = true := by simp [inB]; omega
  have hfk : Fits k := by unfold Fits; omega
  have HFK := hide hfk
  have HFO := hide (show Fits 1 by unfold Fits; omega)
  clear hfk
  go_enter Try.func29, Try.ntmps29
  go_upto_region 1 with fail
  have he0 : Ext w (w.alloc (Obj.cells #[.slice none 0 0] 48)) := (Ext.auto)
  have hs0 : w.heap.size + 1 ≤ ((w.alloc (Obj.cells #[.slice none 0 0] 48))).heap.size := by simp
  have hq0 := hide (show ((w.alloc (Obj.cells #[.slice none 0 0] 48))).heap.size = w.heap.size + 1 by simp)
  have hBres_0 : Bx (w.alloc (Obj.cells #[.slice none 0 0] 48)) (w.heap.size) [.slice none 0 0] := (by have := (Bx.new w #[.slice none 0 0] 48); simpa using this)
  have hFres_0 : ∀ oo, ((w.alloc (Obj.cells #[.slice none 0 0] 48))).frozen? ⟨w.heap.size, oo, none⟩ = false := fun oo => by simp
  generalize (w.alloc (Obj.cells #[.slice none 0 0] 48)) = w0 at *
  have yres : w.heap.size < w0.heap.size := by omega
  have xres0 : w0.cell? ⟨w.heap.size, 0, none⟩ = some (.slice none 0 0) := hBres_0 0 _ rfl
  have fres := hFres_0
  go_wp2_with (go_at_call 68; refine (l1In_any _ _ _ _).mono ?_; rintro e w' ⟨rfl, rfl⟩; rw [qi])
  have xr : (w0.setCell ⟨w.heap.size, 0, none⟩ (.slice (some ⟨w0.heap.size + 1, 0, none⟩) 1 1)).cell? ⟨w.heap.size, 0, none⟩ = some (.slice (some ⟨w0.heap.size + 1, 0, none⟩) 1 1) := (show Bx (w0.setCell ⟨w.heap.size, 0, none⟩ (.slice (some ⟨w0.heap.size + 1, 0, none⟩) 1 1)) w.heap.size [.slice (some ⟨w0.heap.size + 1, 0, none⟩) 1 1] by have := Bx.put hBres_0 (j := 0) (by simp) (.slice (some ⟨w0.heap.size + 1, 0, none⟩) 1 1); simpa using this) 0 _ rfl
  have hez : Ext w (w0.setCell ⟨w.heap.size, 0, none⟩ (.slice (some ⟨w0.heap.size + 1, 0, none⟩) 1 1)) := Ext.hold he0
  have hsz : w0.heap.size = (w0.setCell ⟨w.heap.size, 0, none⟩ (.slice (some ⟨w0.heap.size + 1, 0, none⟩) 1 1)).heap.size := by simp
  clear xres0 yres fres hBres_0 hFres_0 he0
  generalize (w0.setCell ⟨w.heap.size, 0, none⟩ (.slice (some ⟨w0.heap.size + 1, 0, none⟩) 1 1)) = wz at *
  simp only [hsz] at *
  have xr2 : ((wz.alloc (.cells #[.int .i64 k] 3)).alloc (.cells #[.int .i64 1, .slice (some ⟨wz.heap.size, 0, none⟩) 1 1] 104)).cell? ⟨w.heap.size, 0, none⟩ = some (.slice (some ⟨wz.heap.size + 1, 0, none⟩) 1 1) := ((Ext.auto : Ext wz ((wz.alloc (.cells #[.int .i64 k] 3)).alloc (.cells #[.int .i64 1, .slice (some ⟨wz.heap.size, 0, none⟩) 1 1] 104))).cell (by omega)).trans xr
  refine bodyPost_ret (v := .agg #[.slice (some ⟨wz.heap.size + 1, 0, none⟩) 1 1]) (by simp [results, Try.results29, go_sem, xr2]) rfl ⟨_, [wz.heap.size + 1, wz.heap.size], rfl, ?_, ⟨by simp, fun z hz => ?_⟩, Ext.hold hez⟩
  · refine OwnSl.one (vs := [.int .i64 1, .slice (some ⟨wz.heap.size, 0, none⟩) 1 1]) ⟨_, rfl, HFO.out, OwnSl.one (vs := [.int .i64 k]) ⟨⟨rfl, HFK.out⟩, rfl⟩ (fun j u hu => ?_) (fun oo => ?_)⟩ (fun j u hu => ?_) (fun oo => ?_)
    · exact ((Bx.new wz #[.int .i64 k] 3).alloc (by simp) _ _) j u hu
    · exact fz_alloc (fz_new wz #[.int .i64 k] 3 rfl) (by simp) _ oo
    · exact (by have := Bx.new (wz.alloc (.cells #[.int .i64 k] 3)) #[.int .i64 1, .slice (some ⟨wz.heap.size, 0, none⟩) 1 1] 104; simp at this; exact this : Bx ((wz.alloc (.cells #[.int .i64 k] 3)).alloc (.cells #[.int .i64 1, .slice (some ⟨wz.heap.size, 0, none⟩) 1 1] 104)) (wz.heap.size + 1) [.int .i64 1, .slice (some ⟨wz.heap.size, 0, none⟩) 1 1]) j u hu
    · exact (by simp : ∀ oo, (((wz.alloc (.cells #[.int .i64 k] 3)).alloc (.cells #[.int .i64 1, .slice (some ⟨wz.heap.size, 0, none⟩) 1 1] 104))).frozen? ⟨wz.heap.size + 1, oo, none⟩ = false) oo
  · simp at hz
    exact ⟨by omega, by simp; omega⟩

set_option maxHeartbeats 4000000 in
theorem implPolAtom_any (k : Int) (w : World)  (h0 : 0 ≤ k) (h1 : k ≤ 199) :
    Calls Try.prog 98 #[.int .i64 k] w fun e w' => ∃ r F, e = .returned (.agg #[r]) ∧ OwnSl w' r (polK k).monos F ∧ Fr w w' F ∧ Ext w w' := by
  have qi : inB k 0 199 = true := by simp [inB]; omega
  have hfk : Fits k := by unfold Fits; omega
  have HFK := hide hfk
  have HFO := hide (show Fits 1 by unfold Fits; omega)
  clear hfk
  go_enter Try.func98, Try.ntmps98
  go_upto_region 1 with fail
  have he0 : Ext w (w.alloc (Obj.cells #[.slice none 0 0] 48)) := (Ext.auto)
  have hs0 : w.heap.size + 1 ≤ ((w.alloc (Obj.cells #[.slice none 0 0] 48))).heap.size := by simp
  have hq0 := hide (show ((w.alloc (Obj.cells #[.slice none 0 0] 48))).heap.size = w.heap.size + 1 by simp)
  have hBres_0 : Bx (w.alloc (Obj.cells #[.slice none 0 0] 48)) (w.heap.size) [.slice none 0 0] := (by have := (Bx.new w #[.slice none 0 0] 48); simpa using this)
  have hFres_0 : ∀ oo, ((w.alloc (Obj.cells #[.slice none 0 0] 48))).frozen? ⟨w.heap.size, oo, none⟩ = false := fun oo => by simp
  generalize (w.alloc (Obj.cells #[.slice none 0 0] 48)) = w0 at *
  have yres : w.heap.size < w0.heap.size := by omega
  have xres0 : w0.cell? ⟨w.heap.size, 0, none⟩ = some (.slice none 0 0) := hBres_0 0 _ rfl
  have fres := hFres_0
  go_wp2_with (go_at_call 87; refine (in_any _ _ _ _).mono ?_; rintro e w' ⟨rfl, rfl⟩; rw [qi])
  have xr : (w0.setCell ⟨w.heap.size, 0, none⟩ (.slice (some ⟨w0.heap.size + 1, 0, none⟩) 1 1)).cell? ⟨w.heap.size, 0, none⟩ = some (.slice (some ⟨w0.heap.size + 1, 0, none⟩) 1 1) := (show Bx (w0.setCell ⟨w.heap.size, 0, none⟩ (.slice (some ⟨w0.heap.size + 1, 0, none⟩) 1 1)) w.heap.size [.slice (some ⟨w0.heap.size + 1, 0, none⟩) 1 1] by have := Bx.put hBres_0 (j := 0) (by simp) (.slice (some ⟨w0.heap.size + 1, 0, none⟩) 1 1); simpa using this) 0 _ rfl
  have hez : Ext w (w0.setCell ⟨w.heap.size, 0, none⟩ (.slice (some ⟨w0.heap.size + 1, 0, none⟩) 1 1)) := Ext.hold he0
  have hsz : w0.heap.size = (w0.setCell ⟨w.heap.size, 0, none⟩ (.slice (some ⟨w0.heap.size + 1, 0, none⟩) 1 1)).heap.size := by simp
  clear xres0 yres fres hBres_0 hFres_0 he0
  generalize (w0.setCell ⟨w.heap.size, 0, none⟩ (.slice (some ⟨w0.heap.size + 1, 0, none⟩) 1 1)) = wz at *
  simp only [hsz] at *
  have xr2 : ((wz.alloc (.cells #[.int .i64 k] 3)).alloc (.cells #[.int .i64 1, .slice (some ⟨wz.heap.size, 0, none⟩) 1 1] 104)).cell? ⟨w.heap.size, 0, none⟩ = some (.slice (some ⟨wz.heap.size + 1, 0, none⟩) 1 1) := ((Ext.auto : Ext wz ((wz.alloc (.cells #[.int .i64 k] 3)).alloc (.cells #[.int .i64 1, .slice (some ⟨wz.heap.size, 0, none⟩) 1 1] 104))).cell (by omega)).trans xr
  refine bodyPost_ret (v := .agg #[.slice (some ⟨wz.heap.size + 1, 0, none⟩) 1 1]) (by simp [results, Try.results98, go_sem, xr2]) rfl ⟨_, [wz.heap.size + 1, wz.heap.size], rfl, ?_, ⟨by simp, fun z hz => ?_⟩, Ext.hold hez⟩
  · refine OwnSl.one (vs := [.int .i64 1, .slice (some ⟨wz.heap.size, 0, none⟩) 1 1]) ⟨_, rfl, HFO.out, OwnSl.one (vs := [.int .i64 k]) ⟨⟨rfl, HFK.out⟩, rfl⟩ (fun j u hu => ?_) (fun oo => ?_)⟩ (fun j u hu => ?_) (fun oo => ?_)
    · exact ((Bx.new wz #[.int .i64 k] 3).alloc (by simp) _ _) j u hu
    · exact fz_alloc (fz_new wz #[.int .i64 k] 3 rfl) (by simp) _ oo
    · exact (by have := Bx.new (wz.alloc (.cells #[.int .i64 k] 3)) #[.int .i64 1, .slice (some ⟨wz.heap.size, 0, none⟩) 1 1] 104; simp at this; exact this : Bx ((wz.alloc (.cells #[.int .i64 k] 3)).alloc (.cells #[.int .i64 1, .slice (some ⟨wz.heap.size, 0, none⟩) 1 1] 104)) (wz.heap.size + 1) [.int .i64 1, .slice (some ⟨wz.heap.size, 0, none⟩) 1 1]) j u hu
    · exact (by simp : ∀ oo, (((wz.alloc (.cells #[.int .i64 k] 3)).alloc (.cells #[.int .i64 1, .slice (some ⟨wz.heap.size, 0, none⟩) 1 1] 104))).frozen? ⟨wz.heap.size + 1, oo, none⟩ = false) oo
  · simp at hz
    exact ⟨by omega, by simp; omega⟩

end Go.Proofs.Ytdmbgljkogpmdaa
