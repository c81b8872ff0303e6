/-
  NewP, SumC
-/
import Derived.Test.YtmbclopkopfngaaQPolC
import Derived.Test.YtmbclopkopfngaaQTy
import Derived.Test.YtmbclopkopfngaaQTabR
import Derived.Test.YtmbclopkopfngaaQPolS
import Derived.Test.YtmbclopkopfngaaQSumPure
import Derived.Test.YtmbclopkopfngaaQConstW
import Derived.Deep.DeepCutAuto
namespace Go.Proofs.Ytmbclopkopfngaa
open Go.RowKit

set_option linter.unusedVariables false
set_option linter.unusedSimpArgs false
set_option maxRecDepth 100000

theorem OwnSl.one {α : Type} [Own α] {w : World} {b : Nat} {vs : List Value} {a : α} {F : List Nat} (h : Own.own w vs a F) (hc : ∀ j u, vs[j]? = some u → w.cell? ⟨b, j, none⟩ = some u) (hf : ∀ o, w.frozen? ⟨b, o, none⟩ = false) : OwnSl w (.slice (some ⟨b, 0, none⟩) 1 1) [a] (b :: F) :=
  ⟨_, 1, rfl, Nat.le_refl _, by decide, fun h => (by cases h), fun h => (by cases h), fun _ => ⟨b, 0, [F], rfl, by simp, rfl, hf, fun i x Fi hx hF => by
    cases i with
    | zero =>
      simp at hx hF
      subst hx; subst hF
      exact ⟨vs, h, fun j u hu => by rw [Nat.zero_mul, Nat.zero_add, Nat.zero_add]; exact hc j u hu⟩
    | succ i => simp at hx⟩⟩
def polK (k : Int) : TrmPoly := ⟨[⟨1, [k]⟩]⟩
def regAtom (k : Int) : TabAtom := ⟨1, k, ⟨[]⟩, ⟨[]⟩⟩
def upL {α : Type} (f : Int → α) : Nat → List α
  | 0 => []
  | n + 1 => upL f n ++ [f (n : Int)]
def newTab : TabTab := ⟨upL regAtom 4⟩
def newRegs : List TrmPoly := upL polK 4
theorem upL_len {α : Type} (f : Int → α) : ∀ n, (upL f n).length = n
  | 0 => rfl
  | n + 1 => by rw [upL, List.length_append, upL_len]; rfl

theorem App.doneIn {α : Type} [Own α] {w wr : World} {e : TypeId} {v : Value} {l : List α} {Fs : List (List Nat)} {xs : List Value} {P : Nat → Prop} (h : App w wr e v l Fs xs) (hv : ∀ q, v.ownBlock = some q → P q) (hf : ∀ z, z ∈ Fs.flatten → P z) : ∃ F, OwnSl wr v l F ∧ Fr w wr F ∧ ∀ z, z ∈ F → P z := by
  rcases h.row.2 with ⟨rfl, hn⟩ | ⟨g, cap, cur, rfl, hb, hh, hnc, hcm, hcs, htake⟩
  · have : l = [] := List.eq_nil_of_length_eq_zero hn
    subst this
    exact ⟨[], OwnSl.nil _, Fr.nil _ _, fun z hz => by simp at hz⟩
  · by_cases hl : l = []
    · subst hl
      exact ⟨[], ⟨_, cap, rfl, hnc, hcm, fun h => by simp at h, fun _ => rfl, fun h => absurd rfl h⟩, Fr.nil _ _, fun z hz => by simp at hz⟩
    · have hgl : g < wr.heap.size := by
        rcases Nat.lt_or_ge g wr.heap.size with hlt | hge
        · exact hlt
        · rw [Array.getElem?_eq_none hge] at hh; cases hh
      refine ⟨g :: Fs.flatten, ⟨_, cap, rfl, hnc, hcm, fun h => by simp at h, fun h => absurd h hl, fun _ => ⟨g, 0, Fs, rfl, rfl, h.flen, fun o => by simp [World.frozen?, hh], fun i a Fi ha hf => ?_⟩⟩, ⟨List.nodup_cons.2 ⟨h.apart g rfl, h.fr.1⟩, fun b hm => ?_⟩, fun z hz => by
        rcases List.mem_cons.1 hz with rfl | hz
        · exact hv z rfl
        · exact hf z hz⟩
      · obtain ⟨vs, h1, h2⟩ := h.els i a Fi ha hf
        refine ⟨vs, h1, fun j u hu => ?_⟩
        have h3 := h2 j u hu
        rw [← htake] at h3
        rw [Nat.zero_add]
        rw [List.getElem?_take] at h3
        split at h3
        · simp [World.cell?, hh]
          simpa using h3
        · simp at h3
      · rcases List.mem_cons.1 hm with rfl | hm
        · exact ⟨hb, hgl⟩
        · exact h.fr.2 b hm

set_option maxHeartbeats 4000000 in
theorem specPolAtom_any (k : Int) (w : World)  (h0 : 0 ≤ k) (h1 : k ≤ 199) :
    Calls Try.prog 50 #[.int .i64 k] w fun e w' => ∃ r F, e = .returned (.agg #[r]) ∧ OwnSl w' r (polK k).monos F ∧ Fr w w' F ∧ Ext w w' := by
  have qi : inB k 0 199 = true := by simp [inB]; omega
  have hfk : Fits k := by unfold Fits; omega
  have HFK := hide hfk
  have HFO := hide (show Fits 1 by unfold Fits; omega)
  clear hfk
  go_enter Try.func50, Try.ntmps50
  go_upto_region 1 with fail
  have he0 : Ext w (w.alloc (Obj.cells #[.slice none 0 0] 28)) := (Ext.auto)
  have hs0 : w.heap.size + 1 ≤ ((w.alloc (Obj.cells #[.slice none 0 0] 28))).heap.size := by simp
  have hq0 := hide (show ((w.alloc (Obj.cells #[.slice none 0 0] 28))).heap.size = w.heap.size + 1 by simp)
  have hBres_0 : Bx (w.alloc (Obj.cells #[.slice none 0 0] 28)) (w.heap.size) [.slice none 0 0] := (by have := (Bx.new w #[.slice none 0 0] 28); simpa using this)
  have hFres_0 : ∀ oo, ((w.alloc (Obj.cells #[.slice none 0 0] 28))).frozen? ⟨w.heap.size, oo, none⟩ = false := fun oo => by simp
  generalize (w.alloc (Obj.cells #[.slice none 0 0] 28)) = w0 at *
  have yres : w.heap.size < w0.heap.size := by omega
  have xres0 : w0.cell? ⟨w.heap.size, 0, none⟩ = some (.slice none 0 0) := hBres_0 0 _ rfl
  have fres := hFres_0
  go_wp2_with (go_at_call 68; refine (l1In_any _ _ _ _).mono ?_; rintro e w' ⟨rfl, rfl⟩; rw [qi])
  have xr : (w0.setCell ⟨w.heap.size, 0, none⟩ (.slice (some ⟨w0.heap.size + 1, 0, none⟩) 1 1)).cell? ⟨w.heap.size, 0, none⟩ = some (.slice (some ⟨w0.heap.size + 1, 0, none⟩) 1 1) := (show Bx (w0.setCell ⟨w.heap.size, 0, none⟩ (.slice (some ⟨w0.heap.size + 1, 0, none⟩) 1 1)) w.heap.size [.slice (some ⟨w0.heap.size + 1, 0, none⟩) 1 1] by have := Bx.put hBres_0 (j := 0) (by simp) (.slice (some ⟨w0.heap.size + 1, 0, none⟩) 1 1); simpa using this) 0 _ rfl
  have hez : Ext w (w0.setCell ⟨w.heap.size, 0, none⟩ (.slice (some ⟨w0.heap.size + 1, 0, none⟩) 1 1)) := Ext.hold he0
  have hsz : w0.heap.size = (w0.setCell ⟨w.heap.size, 0, none⟩ (.slice (some ⟨w0.heap.size + 1, 0, none⟩) 1 1)).heap.size := by simp
  clear xres0 yres fres hBres_0 hFres_0 he0
  generalize (w0.setCell ⟨w.heap.size, 0, none⟩ (.slice (some ⟨w0.heap.size + 1, 0, none⟩) 1 1)) = wz at *
  simp only [hsz] at *
  have xr2 : ((wz.alloc (.cells #[.int .i64 k] 3)).alloc (.cells #[.int .i64 1, .slice (some ⟨wz.heap.size, 0, none⟩) 1 1] 79)).cell? ⟨w.heap.size, 0, none⟩ = some (.slice (some ⟨wz.heap.size + 1, 0, none⟩) 1 1) := ((Ext.auto : Ext wz ((wz.alloc (.cells #[.int .i64 k] 3)).alloc (.cells #[.int .i64 1, .slice (some ⟨wz.heap.size, 0, none⟩) 1 1] 79))).cell (by omega)).trans xr
  refine bodyPost_ret (v := .agg #[.slice (some ⟨wz.heap.size + 1, 0, none⟩) 1 1]) (by simp [results, Try.results50, go_sem, xr2]) rfl ⟨_, [wz.heap.size + 1, wz.heap.size], rfl, ?_, ⟨by simp, fun z hz => ?_⟩, Ext.hold hez⟩
  · refine OwnSl.one (vs := [.int .i64 1, .slice (some ⟨wz.heap.size, 0, none⟩) 1 1]) ⟨_, rfl, HFO.out, OwnSl.one (vs := [.int .i64 k]) ⟨⟨rfl, HFK.out⟩, rfl⟩ (fun j u hu => ?_) (fun oo => ?_)⟩ (fun j u hu => ?_) (fun oo => ?_)
    · exact ((Bx.new wz #[.int .i64 k] 3).alloc (by simp) _ _) j u hu
    · exact fz_alloc (fz_new wz #[.int .i64 k] 3 rfl) (by simp) _ oo
    · exact (by have := Bx.new (wz.alloc (.cells #[.int .i64 k] 3)) #[.int .i64 1, .slice (some ⟨wz.heap.size, 0, none⟩) 1 1] 79; simp at this; exact this : Bx ((wz.alloc (.cells #[.int .i64 k] 3)).alloc (.cells #[.int .i64 1, .slice (some ⟨wz.heap.size, 0, none⟩) 1 1] 79)) (wz.heap.size + 1) [.int .i64 1, .slice (some ⟨wz.heap.size, 0, none⟩) 1 1]) j u hu
    · exact (by simp : ∀ oo, (((wz.alloc (.cells #[.int .i64 k] 3)).alloc (.cells #[.int .i64 1, .slice (some ⟨wz.heap.size, 0, none⟩) 1 1] 79))).frozen? ⟨wz.heap.size + 1, oo, none⟩ = false) oo
  · simp at hz
    exact ⟨by omega, by simp; omega⟩

set_option maxHeartbeats 4000000 in
theorem implPolAtom_any (k : Int) (w : World)  (h0 : 0 ≤ k) (h1 : k ≤ 199) :
    Calls Try.prog 93 #[.int .i64 k] w fun e w' => ∃ r F, e = .returned (.agg #[r]) ∧ OwnSl w' r (polK k).monos F ∧ Fr w w' F ∧ Ext w w' := by
  have qi : inB k 0 199 = true := by simp [inB]; omega
  have hfk : Fits k := by unfold Fits; omega
  have HFK := hide hfk
  have HFO := hide (show Fits 1 by unfold Fits; omega)
  clear hfk
  go_enter Try.func93, Try.ntmps93
  go_upto_region 1 with fail
  have he0 : Ext w (w.alloc (Obj.cells #[.slice none 0 0] 28)) := (Ext.auto)
  have hs0 : w.heap.size + 1 ≤ ((w.alloc (Obj.cells #[.slice none 0 0] 28))).heap.size := by simp
  have hq0 := hide (show ((w.alloc (Obj.cells #[.slice none 0 0] 28))).heap.size = w.heap.size + 1 by simp)
  have hBres_0 : Bx (w.alloc (Obj.cells #[.slice none 0 0] 28)) (w.heap.size) [.slice none 0 0] := (by have := (Bx.new w #[.slice none 0 0] 28); simpa using this)
  have hFres_0 : ∀ oo, ((w.alloc (Obj.cells #[.slice none 0 0] 28))).frozen? ⟨w.heap.size, oo, none⟩ = false := fun oo => by simp
  generalize (w.alloc (Obj.cells #[.slice none 0 0] 28)) = w0 at *
  have yres : w.heap.size < w0.heap.size := by omega
  have xres0 : w0.cell? ⟨w.heap.size, 0, none⟩ = some (.slice none 0 0) := hBres_0 0 _ rfl
  have fres := hFres_0
  go_wp2_with (go_at_call 59; refine (in_any _ _ _ _).mono ?_; rintro e w' ⟨rfl, rfl⟩; rw [qi])
  have xr : (w0.setCell ⟨w.heap.size, 0, none⟩ (.slice (some ⟨w0.heap.size + 1, 0, none⟩) 1 1)).cell? ⟨w.heap.size, 0, none⟩ = some (.slice (some ⟨w0.heap.size + 1, 0, none⟩) 1 1) := (show Bx (w0.setCell ⟨w.heap.size, 0, none⟩ (.slice (some ⟨w0.heap.size + 1, 0, none⟩) 1 1)) w.heap.size [.slice (some ⟨w0.heap.size + 1, 0, none⟩) 1 1] by have := Bx.put hBres_0 (j := 0) (by simp) (.slice (some ⟨w0.heap.size + 1, 0, none⟩) 1 1); simpa using this) 0 _ rfl
  have hez : Ext w (w0.setCell ⟨w.heap.size, 0, none⟩ (.slice (some ⟨w0.heap.size + 1, 0, none⟩) 1 1)) := Ext.hold he0
  have hsz : w0.heap.size = (w0.setCell ⟨w.heap.size, 0, none⟩ (.slice (some ⟨w0.heap.size + 1, 0, none⟩) 1 1)).heap.size := by simp
  clear xres0 yres fres hBres_0 hFres_0 he0
  generalize (w0.setCell ⟨w.heap.size, 0, none⟩ (.slice (some ⟨w0.heap.size + 1, 0, none⟩) 1 1)) = wz at *
  simp only [hsz] at *
  have xr2 : ((wz.alloc (.cells #[.int .i64 k] 3)).alloc (.cells #[.int .i64 1, .slice (some ⟨wz.heap.size, 0, none⟩) 1 1] 79)).cell? ⟨w.heap.size, 0, none⟩ = some (.slice (some ⟨wz.heap.size + 1, 0, none⟩) 1 1) := ((Ext.auto : Ext wz ((wz.alloc (.cells #[.int .i64 k] 3)).alloc (.cells #[.int .i64 1, .slice (some ⟨wz.heap.size, 0, none⟩) 1 1] 79))).cell (by omega)).trans xr
  refine bodyPost_ret (v := .agg #[.slice (some ⟨wz.heap.size + 1, 0, none⟩) 1 1]) (by simp [results, Try.results93, go_sem, xr2]) rfl ⟨_, [wz.heap.size + 1, wz.heap.size], rfl, ?_, ⟨by simp, fun z hz => ?_⟩, Ext.hold hez⟩
  · refine OwnSl.one (vs := [.int .i64 1, .slice (some ⟨wz.heap.size, 0, none⟩) 1 1]) ⟨_, rfl, HFO.out, OwnSl.one (vs := [.int .i64 k]) ⟨⟨rfl, HFK.out⟩, rfl⟩ (fun j u hu => ?_) (fun oo => ?_)⟩ (fun j u hu => ?_) (fun oo => ?_)
    · exact ((Bx.new wz #[.int .i64 k] 3).alloc (by simp) _ _) j u hu
    · exact fz_alloc (fz_new wz #[.int .i64 k] 3 rfl) (by simp) _ oo
    · exact (by have := Bx.new (wz.alloc (.cells #[.int .i64 k] 3)) #[.int .i64 1, .slice (some ⟨wz.heap.size, 0, none⟩) 1 1] 79; simp at this; exact this : Bx ((wz.alloc (.cells #[.int .i64 k] 3)).alloc (.cells #[.int .i64 1, .slice (some ⟨wz.heap.size, 0, none⟩) 1 1] 79)) (wz.heap.size + 1) [.int .i64 1, .slice (some ⟨wz.heap.size, 0, none⟩) 1 1]) j u hu
    · exact (by simp : ∀ oo, (((wz.alloc (.cells #[.int .i64 k] 3)).alloc (.cells #[.int .i64 1, .slice (some ⟨wz.heap.size, 0, none⟩) 1 1] 79))).frozen? ⟨wz.heap.size + 1, oo, none⟩ = false) oo
  · simp at hz
    exact ⟨by omega, by simp; omega⟩

end Go.Proofs.Ytmbclopkopfngaa

namespace Go.Proofs.Ytmbclopkopfngaa
open Go.RowKit

set_option linter.unusedVariables false
set_option linter.unusedSimpArgs false
set_option maxRecDepth 100000

def fitL (l : List TrmMono) : List TrmMono := if fitB l = true then l else []
theorem fitL_no {l : List TrmMono} (h : fitB l = false) : fitL l = [] := by unfold fitL; rw [h]; rfl
theorem fitL_yes {l : List TrmMono} (h : fitB l = true) : fitL l = l := by unfold fitL; rw [h]; rfl
def polC (n : Int) : TrmPoly := if n = 0 then ⟨[]⟩ else ⟨[⟨n, []⟩]⟩
theorem fit_blk {l : List TrmMono} (h : fitB l = true) : Bulk.blk l ≤ 60 := by
  unfold fitB at h
  simp only [Bool.and_eq_true, decide_eq_true_eq] at h
  have ha := allB_iff.1 h.2
  have hs : ∀ k, k ≤ l.length → bsum l k ≤ 4 * k := by
    intro k
    induction k with
    | zero => intro _; rw [bsum_zero]; omega
    | succ k ih =>
      intro hk
      rw [bsum_succ l k (by omega)]
      have h1 := ih (by omega)
      have h2 := ha k (by omega)
      rw [gM_at l k (by omega)] at h2
      have h3 : Bulk.blk l[k] = l[k].atoms.length := blk_flat l[k].atoms (fun _ => rfl)
      simp at h2
      omega
  have := hs l.length (Nat.le_refl _)
  have h4 := bsum_all l
  omega
theorem ok_under {p : TrmPoly} (h : polOkB p = true) : polUnderB p 200 = true := by
  rw [← polOk_same p] at h
  unfold polOkI at h
  simp only [Bool.and_eq_true] at h
  exact h.2.1.2
theorem ok_sum {p : TrmPoly} (h : polOkB p = true) : SumW 200 p.monos := sum_of_ok h (ok_under h)
theorem ok_len {p : TrmPoly} (h : polOkB p = true) : p.monos.length ≤ 12 := by
  unfold polOkB at h
  simp only [Bool.and_eq_true, decide_eq_true_eq] at h
  exact h.1

set_option maxHeartbeats 4000000 in
theorem specPolConst_any (n : Int) (w : World)  (h0 : 0 ≤ n) (h1 : n ≤ 65535) :
    Calls Try.prog 52 #[.int .i64 n] w fun e w' => ∃ r F, e = .returned (.agg #[r]) ∧ OwnSl w' r (polC n).monos F ∧ Fr w w' F ∧ Ext w w' := by
  by_cases hz : n = 0
  · 
    subst hz
    have qi : inB 0 1 65535 = false := by decide
    go_enter Try.func52, Try.ntmps52
    go_upto_region 1 with fail
    have he0 : Ext w (w.alloc (Obj.cells #[.slice none 0 0] 28)) := (Ext.auto)
    have hs0 : w.heap.size + 1 ≤ ((w.alloc (Obj.cells #[.slice none 0 0] 28))).heap.size := by simp
    have hq0 := hide (show ((w.alloc (Obj.cells #[.slice none 0 0] 28))).heap.size = w.heap.size + 1 by simp)
    have hBres_0 : Bx (w.alloc (Obj.cells #[.slice none 0 0] 28)) (w.heap.size) [.slice none 0 0] := (by have := (Bx.new w #[.slice none 0 0] 28); simpa using this)
    have hFres_0 : ∀ oo, ((w.alloc (Obj.cells #[.slice none 0 0] 28))).frozen? ⟨w.heap.size, oo, none⟩ = false := fun oo => by simp
    generalize (w.alloc (Obj.cells #[.slice none 0 0] 28)) = w0 at *
    have yres : w.heap.size < w0.heap.size := by omega
    have xres0 : w0.cell? ⟨w.heap.size, 0, none⟩ = some (.slice none 0 0) := hBres_0 0 _ rfl
    have fres := hFres_0
    go_wp2_with (go_at_call 68; refine (l1In_any _ _ _ _).mono ?_; rintro e w' ⟨rfl, rfl⟩; rw [qi])
    refine bodyPost_ret (v := .agg #[.slice none 0 0]) (by simp [results, Try.results52, go_sem, xres0]) rfl ⟨_, [], rfl, OwnSl.nil _, Fr.nil _ _, Ext.hold he0⟩
  have qi : inB n 1 65535 = true := by simp [inB]; omega
  have HP := hide (show (polC n).monos = [⟨n, []⟩] by unfold polC; rw [if_neg hz])
  have HFK := hide (show Fits n by unfold Fits; omega)
  clear hz
  go_enter Try.func52, Try.ntmps52
  go_upto_region 1 with fail
  have he0 : Ext w (w.alloc (Obj.cells #[.slice none 0 0] 28)) := (Ext.auto)
  have hs0 : w.heap.size + 1 ≤ ((w.alloc (Obj.cells #[.slice none 0 0] 28))).heap.size := by simp
  have hq0 := hide (show ((w.alloc (Obj.cells #[.slice none 0 0] 28))).heap.size = w.heap.size + 1 by simp)
  have hBres_0 : Bx (w.alloc (Obj.cells #[.slice none 0 0] 28)) (w.heap.size) [.slice none 0 0] := (by have := (Bx.new w #[.slice none 0 0] 28); simpa using this)
  have hFres_0 : ∀ oo, ((w.alloc (Obj.cells #[.slice none 0 0] 28))).frozen? ⟨w.heap.size, oo, none⟩ = false := fun oo => by simp
  generalize (w.alloc (Obj.cells #[.slice none 0 0] 28)) = w0 at *
  have yres : w.heap.size < w0.heap.size := by omega
  have xres0 : w0.cell? ⟨w.heap.size, 0, none⟩ = some (.slice none 0 0) := hBres_0 0 _ rfl
  have fres := hFres_0
  go_wp2_with (go_at_call 68; refine (l1In_any _ _ _ _).mono ?_; rintro e w' ⟨rfl, rfl⟩; rw [qi])
  have xr : (w0.setCell ⟨w.heap.size, 0, none⟩ (.slice (some ⟨w0.heap.size, 0, none⟩) 1 1)).cell? ⟨w.heap.size, 0, none⟩ = some (.slice (some ⟨w0.heap.size, 0, none⟩) 1 1) := (show Bx (w0.setCell ⟨w.heap.size, 0, none⟩ (.slice (some ⟨w0.heap.size, 0, none⟩) 1 1)) w.heap.size [.slice (some ⟨w0.heap.size, 0, none⟩) 1 1] by have := Bx.put hBres_0 (j := 0) (by simp) (.slice (some ⟨w0.heap.size, 0, none⟩) 1 1); simpa using this) 0 _ rfl
  have hez : Ext w (w0.setCell ⟨w.heap.size, 0, none⟩ (.slice (some ⟨w0.heap.size, 0, none⟩) 1 1)) := Ext.hold he0
  have hsz : w0.heap.size = (w0.setCell ⟨w.heap.size, 0, none⟩ (.slice (some ⟨w0.heap.size, 0, none⟩) 1 1)).heap.size := by simp
  clear xres0 yres fres hBres_0 hFres_0 he0
  generalize (w0.setCell ⟨w.heap.size, 0, none⟩ (.slice (some ⟨w0.heap.size, 0, none⟩) 1 1)) = wz at *
  simp only [hsz] at *
  have xr2 : (wz.alloc (.cells #[.int .i64 n, .slice none 0 0] 79)).cell? ⟨w.heap.size, 0, none⟩ = some (.slice (some ⟨wz.heap.size, 0, none⟩) 1 1) := ((Ext.auto : Ext wz (wz.alloc (.cells #[.int .i64 n, .slice none 0 0] 79))).cell (by omega)).trans xr
  refine bodyPost_ret (v := .agg #[.slice (some ⟨wz.heap.size, 0, none⟩) 1 1]) (by simp [results, Try.results52, go_sem, xr2]) rfl ⟨_, [wz.heap.size], rfl, ?_, ⟨by simp, fun z hz => ?_⟩, Ext.hold hez⟩
  · rw [HP.out]
    refine OwnSl.one (vs := [.int .i64 n, .slice none 0 0]) ⟨_, rfl, HFK.out, OwnSl.nil _⟩ (fun j u hu => ?_) (fun oo => ?_)
    · exact (Bx.new wz #[.int .i64 n, .slice none 0 0] 79) j u hu
    · exact (fz_new wz #[.int .i64 n, .slice none 0 0] 79 rfl) oo
  · simp at hz
    subst hz
    exact ⟨by omega, by simp⟩

set_option maxHeartbeats 16000000 in
theorem l4Fit_any (l : List TrmMono) (vl : Value) (w : World) (hl : Sl w (Old w) vl l)  :
    Calls Try.prog 80 #[vl] w fun e w' => ∃ r F, e = .returned (.tuple #[.agg #[r], .bool (fitB l)]) ∧ OwnSl w' r (fitL l) F ∧ Fr w w' F ∧ Ext w w' := by
  obtain ⟨Al, cl, rfl, hll, hml⟩ := hl.form
  unfold maxLen at hml
  by_cases h4 : l.length ≤ 12
  rotate_left
  · have HV := hide (show fitB l = false by unfold fitB; rw [decide_eq_false h4]; rfl)
    have qa : decide ((12 : Int) < (l.length : Int)) = true := decide_eq_true (by omega)
    have qb : decide (12 < l.length) = true := decide_eq_true (by omega)
    clear h4
    go_enter Try.func80, Try.ntmps80
    go_upto_region 1 with fail
    have he0 : Ext w (w.alloc (Obj.cells #[.slice none 0 0] 28)) := (Ext.auto)
    have hs0 : w.heap.size + 1 ≤ ((w.alloc (Obj.cells #[.slice none 0 0] 28))).heap.size := by simp
    have hq0 := hide (show ((w.alloc (Obj.cells #[.slice none 0 0] 28))).heap.size = w.heap.size + 1 by simp)
    have hBres_0 : Bx (w.alloc (Obj.cells #[.slice none 0 0] 28)) (w.heap.size) [.slice none 0 0] := (by have := (Bx.new w #[.slice none 0 0] 28); simpa using this)
    have hFres_0 : ∀ oo, ((w.alloc (Obj.cells #[.slice none 0 0] 28))).frozen? ⟨w.heap.size, oo, none⟩ = false := fun oo => by simp
    generalize (w.alloc (Obj.cells #[.slice none 0 0] 28)) = w0 at *
    have yres : w.heap.size < w0.heap.size := by omega
    have xres0 : w0.cell? ⟨w.heap.size, 0, none⟩ = some (.slice none 0 0) := hBres_0 0 _ rfl
    have fres := hFres_0
    go_wp2
    refine bodyPost_ret (v := .tuple #[.agg #[.slice none 0 0], .bool false]) (by simp [results, Try.results80, go_sem, xres0]) rfl ⟨_, [], by rw [HV.out], by rw [fitL_no HV.out]; exact OwnSl.nil _, Fr.nil _ _, Ext.hold he0⟩
  have HV0 := hide (show fitB l = allB l.length (fun j => decide ((gM l j).atoms.length ≤ 4)) by unfold fitB; rw [decide_eq_true h4]; rfl)
  have qa : decide ((12 : Int) < (l.length : Int)) = false := decide_eq_false (by omega)
  have qb : decide (12 < l.length) = false := decide_eq_false (by omega)
  go_enter Try.func80, Try.ntmps80
  go_upto_region 1 with fail
  have he0 : Ext w (w.alloc (Obj.cells #[.slice none 0 0] 28)) := (Ext.auto)
  have hs0 : w.heap.size + 1 ≤ ((w.alloc (Obj.cells #[.slice none 0 0] 28))).heap.size := by simp
  have hq0 := hide (show ((w.alloc (Obj.cells #[.slice none 0 0] 28))).heap.size = w.heap.size + 1 by simp)
  have hBres_0 : Bx (w.alloc (Obj.cells #[.slice none 0 0] 28)) (w.heap.size) [.slice none 0 0] := (by have := (Bx.new w #[.slice none 0 0] 28); simpa using this)
  have hFres_0 : ∀ oo, ((w.alloc (Obj.cells #[.slice none 0 0] 28))).frozen? ⟨w.heap.size, oo, none⟩ = false := fun oo => by simp
  generalize (w.alloc (Obj.cells #[.slice none 0 0] 28)) = w0 at *
  go_wp2
  clear qa qb
  go_loopw [4] (fun i wr => ∃ k : Nat, k ≤ l.length ∧ i = .int .i64 k ∧ Ext w0 wr ∧ Hid (∀ j, j < k → decide ((gM l j).atoms.length ≤ 4) = true)) (fun i _ => l.length - (intOf i).toNat)
  case atStart => exact ⟨0, by omega, rfl, Ext.refl _, fun j hj => absurd hj (by omega)⟩
  case round =>
    obtain ⟨k, hk, rfl, hy, HT⟩ := hrel
    obtain ⟨w1, hw1⟩ : ∃ w1 : World, w1 = wr := ⟨_, rfl⟩
    subst hw1
    have hx1 : Ext w0 w1 := Ext.trans (Ext.auto) hy
    have hs1 := hx1.size
    have he1 : Ext w w1 := he0.trans hx1
    have hBres_1 : Bx w1 (w.heap.size) [.slice none 0 0] := hx1.bx hBres_0 (by omega)
    have hFres_1 : ∀ oo, w1.frozen? ⟨w.heap.size, oo, none⟩ = false := fun oo => (hx1.frozen (by omega)).trans (hFres_0 oo)
    clear hBres_0 hFres_0
    clear hy
    by_cases hlt : k < l.length
    · 
      obtain ⟨b, off, va, rfl, hbo, hk0, hva, e0, e1⟩ := at_TrmMono (hl.ext he1) hlt
      obtain ⟨Ava, cva, rfl, -, hmv⟩ := hva.form
      unfold maxLen at hmv
      have hbo1 : b < w1.heap.size := hbo
      have z0 : (0 : Int) ≤ (k : Int) := by omega
      have z1 : (k : Int) < (l.length : Int) := by omega
      have HG := hide (gM_at l k hlt)
      by_cases ha : l[k].atoms.length ≤ 4
      · 
        have q1 : decide ((4 : Int) < (l[k].atoms.length : Int)) = false := decide_eq_false (by omega)
        have q2 : decide (4 < l[k].atoms.length) = false := decide_eq_false (by omega)
        have HN := hide (allB_next HT.out (decide_eq_true (by rw [HG.out]; exact ha)))
        clear ha
        go_wp2_with fail
        go_roundw
        case rel => exact ⟨k + 1, by omega, by go_num, hx1, HN.out⟩
        case measure => (simp [intOf]; try omega)
      · 
        have q1 : decide ((4 : Int) < (l[k].atoms.length : Int)) = true := decide_eq_true (by omega)
        have q2 : decide (4 < l[k].atoms.length) = true := decide_eq_true (by omega)
        have HV := hide (show fitB l = false by rw [HV0.out]; exact allB_no hlt (decide_eq_false (by rw [HG.out]; exact ha)))
        clear ha
        have yres : w.heap.size < w1.heap.size := by omega
        have xres0 : w1.cell? ⟨w.heap.size, 0, none⟩ = some (.slice none 0 0) := hBres_1 0 _ rfl
        have fres := hFres_1
        go_wp2
        refine bodyPost_ret (v := .tuple #[.agg #[.slice none 0 0], .bool false]) (by simp [results, Try.results80, go_sem, xres0]) rfl ⟨_, [], by rw [HV.out], by rw [fitL_no HV.out]; exact OwnSl.nil _, Fr.nil _ _, Ext.hold he1⟩
    · 
      obtain rfl : k = l.length := by omega
      have HV := hide (show fitB l = true by rw [HV0.out]; exact allB_yes HT.out)
      have hbb := fit_blk HV.out
      go_wp2_with fail
      refine (l4Copy_any l _ _ (hl.ext he1) (by omega)).mono ?_
      rintro e w2 ⟨r, F, rfl, hO, hF, hy⟩
      have hx2 : Ext w1 w2 := Ext.trans (Ext.auto) hy
      have hs2 := hx2.size
      have he2 : Ext w w2 := he1.trans hx2
      have hBres_2 : Bx w2 (w.heap.size) [.slice none 0 0] := hx2.bx hBres_1 (by omega)
      have hFres_2 : ∀ oo, w2.frozen? ⟨w.heap.size, oo, none⟩ = false := fun oo => (hx2.frozen (by omega)).trans (hFres_1 oo)
      clear hBres_1 hFres_1
      have hy_ := hy
      clear hy
      obtain ⟨B1, d1, rfl, -, -⟩ := hO.sl.form
      have yres : w.heap.size < w2.heap.size := by omega
      have xres0 : w2.cell? ⟨w.heap.size, 0, none⟩ = some (.slice none 0 0) := hBres_2 0 _ rfl
      have fres := hFres_2
      go_wp2
      refine bodyPost_ret (v := .tuple #[.agg #[.slice B1 l.length d1], .bool true]) (by simp [results, Try.results80, go_sem, xres0]) rfl ⟨_, F, by rw [HV.out], by rw [fitL_yes HV.out]; exact OwnSl.stay hO (fun z hz => by
          have q := hF.2 z hz; have q1 := q.1
          repeat (first | rw [heap_set _ _ _ _ (by show _ ≠ z; omega)] | rw [heap_set _ _ _ _ (by simp; omega)])), hF.mk1 (by omega) (by simp), Ext.hold he2⟩

end Go.Proofs.Ytmbclopkopfngaa
