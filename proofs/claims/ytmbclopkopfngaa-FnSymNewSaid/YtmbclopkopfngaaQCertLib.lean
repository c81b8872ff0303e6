/-
  CertLib, Cap0Lib, ValPure, Vals
-/
import Derived.Test.YtmbclopkopfngaaQAppLib
import Derived.Test.YtmbclopkopfngaaQMarkLib
import Derived.Test.YtmbclopkopfngaaQRowLib
import Derived.Test.YtmbclopkopfngaaQRead
import Derived.Test.YtmbclopkopfngaaQSumPure
import Derived.Test.YtmbclopkopfngaaQTy
import Derived.Test.YtmbclopkopfngaaQRegLib
import Derived.Deep.DeepCutAuto
namespace Go.Proofs.Ytmbclopkopfngaa
open Go.RowKit
set_option linter.unusedVariables false
set_option linter.unusedSimpArgs false

theorem flatten_drop_sub (Fs : List (List Nat)) (k : Nat) : ((Fs.drop k).flatten).Sublist Fs.flatten := by
  induction k generalizing Fs with
  | zero => simp
  | succ k ih =>
    cases Fs with
    | nil => simp
    | cons G Gs => simp only [List.drop_succ_cons, List.flatten_cons]; exact (ih Gs).trans (List.sublist_append_right _ _)

/-- 's[k:]', k an index. -/
theorem OwnSl.drop {α : Type} [Own α] {w0 w : World} {A : Option Addr} {n c : Nat} {l : List α} {F : List Nat} (h : OwnSl w (.slice A n c) l F) (hf : Fr w0 w F) {k : Nat} (hk : k < l.length) :
    ∃ (b off : Nat) (F' : List Nat), A = some ⟨b, off, none⟩ ∧ OwnSl w (.slice (some ⟨b, off + k * Rep.sz α, none⟩) (n - k) (c - k)) (l.drop k) F' ∧ Fr w0 w F' := by
  obtain ⟨A', c', h1, h2, h3, h0, h4, h5⟩ := h
  injection h1 with e1 e2 e3
  subst e1 e2 e3
  have hne : l ≠ [] := by intro e; simp [e] at hk
  obtain ⟨b, off, Fs, rfl, rfl, hlen, hfz, hel⟩ := h5 hne
  have hsub : (b :: (Fs.drop k).flatten).Sublist (b :: Fs.flatten) := (flatten_drop_sub Fs k).cons_cons b
  refine ⟨b, off, b :: (Fs.drop k).flatten, rfl, ⟨_, _, by rw [List.length_drop], by rw [List.length_drop]; omega, by omega, fun h => by simp at h, fun h => ?_, fun _ => ⟨b, _, Fs.drop k, rfl, rfl, by simp [hlen], hfz, fun i a Fi ha hF => ?_⟩⟩, ?_, fun x hx => hf.2 x (hsub.subset hx)⟩
  · have := congrArg List.length h; simp at this; omega
  · rw [List.getElem?_drop] at ha hF
    obtain ⟨vs, g1, g2⟩ := hel (k + i) a Fi ha hF
    refine ⟨vs, g1, fun j u hu => ?_⟩
    rw [← g2 j u hu, Nat.add_mul]
    congr 2
    omega
  · exact hsub.nodup hf.1

/-- What reads in blocks that are there reads so in a world that has grown. -/
theorem OwnSl.up {α : Type} [Own α] {w0 w w' : World} {v : Value} {l : List α} {F : List Nat} (h : OwnSl w v l F) (hf : Fr w0 w F) (e : Ext w w') : OwnSl w' v l F :=
  h.stay fun b hb => e.heap (hf.2 b hb).2
theorem Fr.lt {w0 w : World} {F : List Nat} (h : Fr w0 w F) : ∀ x, x ∈ F → x < w.heap.size := fun x hx => (h.2 x hx).2
theorem Fr.apart {a b c d : World} {F G : List Nat} (h : Fr a b F) (k : Fr c d G) (hl : b.heap.size ≤ c.heap.size) : ∀ x, x ∈ F → x ∉ G := fun x hx hg => by
  have := (h.2 x hx).2; have := (k.2 x hg).1; omega
theorem Fr.inl {a b : World} {F G : List Nat} (h : Fr a b (F ++ G)) : Fr a b F := ⟨(List.nodup_append.1 h.1).1, fun x hx => h.2 x (List.mem_append_left _ hx)⟩
theorem Fr.inr {a b : World} {F G : List Nat} (h : Fr a b (F ++ G)) : Fr a b G := ⟨(List.nodup_append.1 h.1).2.1, fun x hx => h.2 x (List.mem_append_right _ hx)⟩
theorem Sl.drop {α : Type} [Rep α] {w : World} {S : Nat → Prop} {b off n c : Nat} {l : List α} (h : Sl w S (.slice (some ⟨b, off, none⟩) n c) l) {k : Nat} (hk : k < l.length) :
    Sl w S (.slice (some ⟨b, off + k * Rep.sz α, none⟩) (n - k) (c - k)) (l.drop k) := by
  obtain ⟨A', c', h1, h2, h3, h0, h4⟩ := h
  injection h1 with e1 e2 e3
  subst e1 e2 e3
  have hne : l ≠ [] := by intro e; simp [e] at hk
  obtain ⟨b', off', e, hb, hel⟩ := h4 hne
  injection e with e
  injection e with e1 e2
  subst e1 e2
  refine ⟨_, _, by rw [List.length_drop], by rw [List.length_drop]; omega, by omega, fun h => by simp at h, fun _ => ⟨b, _, rfl, hb, fun i a ha => ?_⟩⟩
  rw [List.getElem?_drop] at ha
  obtain ⟨vs, g1, g2⟩ := hel (k + i) a ha
  refine ⟨vs, g1, fun j u hu => ?_⟩
  rw [← g2 j u hu, Nat.add_mul]
  congr 2
  omega
theorem blk_snoc {α : Type} [Bulk α] (l : List α) (a : α) : Bulk.blk (l ++ [a]) = Bulk.blk l + 1 + Bulk.blk a := by
  rw [blk_list, blk_list]; simp; omega
/-- The cells of a box that is one element, as the source of an append. -/
theorem Bx.src {w : World} {b : Nat} {C : List Value} (h : Bx w b C) : ∀ j u, C[j]? = some u → w.cell? ((⟨b, 0, none⟩ : Addr).add j) = some u := fun j u hu => by
  have hadd : (⟨b, 0, none⟩ : Addr).add j = ⟨b, j, none⟩ := by
    unfold Addr.add
    by_cases h : j = 0 <;> simp [h]
  rw [hadd]
  exact h j u hu

end Go.Proofs.Ytmbclopkopfngaa

namespace Go.Proofs.Ytmbclopkopfngaa
open Go.RowKit
set_option linter.unusedVariables false
set_option linter.unusedSimpArgs false

/-- A slice of one-cell elements whose block has a cell for each place up to its capacity. -/
def Cap (e : TypeId) (w : World) (v : Value) : Prop := ∀ (a : Addr) (n c : Nat), v = .slice (some a) n c → ∃ (g : Nat) (cur : Array Value), a = ⟨g, 0, none⟩ ∧ w.heap[g]? = some (.cells cur e (0, 0)) ∧ cur.size = c
theorem Cap.nil (e : TypeId) (w : World) : Cap e w (.slice none 0 0) := fun a n c h => by simp at h
theorem Cap.of_app {w wr : World} {e : TypeId} {v : Value} {l : List Int} {Fs : List (List Nat)} {xs : List Value} (h : App w wr e v l Fs xs) : Cap e wr v := by
  intro a n c hv
  rcases h.row.2 with ⟨h1, h2⟩ | ⟨g', cap, cur, h1, hb, hh, hnc, hcm, hcs, ht⟩
  · rw [h1] at hv; simp at hv
  · rw [h1] at hv
    injection hv with e1 e2 e3
    injection e1 with e1
    subst e1 e3
    exact ⟨g', cur, rfl, hh, by have : cur.size = cap * 1 := hcs; omega⟩
theorem Cap.ext {w w' : World} {e : TypeId} {v : Value} (h : Cap e w v) (k : Ext w w') : Cap e w' v := by
  intro a n c hv
  obtain ⟨g, cur, h0, hh, hs⟩ := h a n c hv
  exact ⟨g, cur, h0, (k.heap (Array.getElem?_eq_some_iff.1 hh).1).trans hh, hs⟩
theorem Cap.set {w : World} {e : TypeId} {v : Value} (h : Cap e w v) (p : Addr) (u : Value) : Cap e (w.setCell p u) v := by
  intro a n c hv
  obtain ⟨g, cur, h0, hh, hs⟩ := h a n c hv
  by_cases hp : p.block = g
  · refine ⟨g, if p.spot.isSome then cur else cur.setIfInBounds p.off u, h0, ?_, by split <;> simpa using hs⟩
    simp only [World.setCell, Array.getElem?_modify, hp, if_true, hh]
    rfl
  · exact ⟨g, cur, h0, (heap_set w p u g hp).trans hh, hs⟩
theorem Cap.block {w w' : World} {e : TypeId} {g o n c : Nat} (h : Cap e w (.slice (some ⟨g, o, none⟩) n c)) (k : w'.heap[g]? = w.heap[g]?) : Cap e w' (.slice (some ⟨g, o, none⟩) n c) := by
  intro a n' c' hv
  obtain ⟨g', cur, h0, hh, hs⟩ := h a n' c' hv
  injection hv with e1 e2 e3
  injection e1 with e1
  have e4 := e1.trans h0
  injection e4 with e5
  subst e5
  exact ⟨g, cur, h0, k.trans hh, hs⟩
theorem Cap.len {w : World} {e : TypeId} {a : Option Addr} {n n' c : Nat} (h : Cap e w (.slice a n c)) : Cap e w (.slice a n' c) := by
  intro b m d hv
  injection hv with e1 e2 e3
  subst e1 e3
  exact h b n _ rfl

end Go.Proofs.Ytmbclopkopfngaa

namespace Go.Proofs.Ytmbclopkopfngaa
open Go.RowKit
set_option linter.unusedVariables false
set_option linter.unusedSimpArgs false

def wordsB (l : List Int) : Bool := l.all wordB
theorem words_all {l : List Int} (h : ∀ a, a ∈ l.take l.length → wordB a = true) : wordsB l = true := by
  rw [List.take_length] at h
  exact List.all_eq_true.2 h
theorem words_no {l : List Int} {k : Nat} (hk : k < l.length) (h : wordB l[k] = false) : wordsB l = false := by
  rw [← Bool.not_eq_true]
  intro q
  have := List.all_eq_true.1 q _ (List.getElem_mem hk)
  rw [h] at this; exact absurd this (by simp)
theorem words_next {l : List Int} {k : Nat} (hk : k < l.length) (h : ∀ a, a ∈ l.take k → wordB a = true) (hw : wordB l[k] = true) : ∀ a, a ∈ l.take (k + 1) → wordB a = true := by
  intro a ha
  rw [List.take_succ_eq_append_getElem hk] at ha
  rcases List.mem_append.1 ha with ha | ha
  · exact h a ha
  · simp at ha; subst ha; exact hw
theorem in_word (n : Int) : inB n 0 65535 = wordB n := by
  unfold inB wordB
  rw [Bool.eq_iff_iff]
  simp
  omega
theorem wordsB_iff {l : List Int} : wordsB l = true ↔ ∀ x, x ∈ l → 0 ≤ x ∧ x < 65536 := by
  unfold wordsB
  rw [List.all_eq_true]
  exact ⟨fun h x hx => wordB_iff.1 (h x hx), fun h x hx => wordB_iff.2 (h x hx)⟩
/-- The word at a place; 0, if there is none. -/
def wAt (l : List Int) (k : Int) : Int := if k < (l.length : Int) then gN l k.toNat else 0
theorem gN_word {l : List Int} (h : wordsB l = true) (k : Nat) : 0 ≤ gN l k ∧ gN l k < 65536 := by
  by_cases hk : k < l.length
  · rw [gN_at l k hk]; exact wordsB_iff.1 h _ (List.getElem_mem hk)
  · unfold gN; rw [List.getElem?_eq_none (by omega)]; decide
theorem wAt_word {l : List Int} (h : wordsB l = true) (k : Int) : 0 ≤ wAt l k ∧ wAt l k < 65536 := by
  unfold wAt
  split
  · exact gN_word h _
  · decide
theorem wAt_in {l : List Int} {k : Nat} (h : k < l.length) : wAt l (k : Int) = l[k] := by
  unfold wAt; rw [if_pos (by omega)]; simp [gN_at l k h]
theorem wAt_out {l : List Int} {k : Int} (h : (l.length : Int) ≤ k) : wAt l k = 0 := by
  unfold wAt; rw [if_neg (by omega)]
def evalAtoms (vals : List Int) (c : Int) (l : List Int) : Int := l.foldl (fun c k => (c * wAt vals k) % 65536) c
def evalMono (vals : List Int) (m : TrmMono) : Int := evalAtoms vals m.coef m.atoms
def evalSum (vals : List Int) (l : List TrmMono) : Int := l.foldl (fun n m => (n + evalMono vals m) % 65536) 0
/-- What a sum comes to. -/
def polEval (p : TrmPoly) (vals : List Int) : Int := if polOkB p && wordsB vals then evalSum vals p.monos else 0
theorem evalAtoms_word {vals : List Int} {c : Int} (hc : 0 ≤ c ∧ c < 65536) (l : List Int) : 0 ≤ evalAtoms vals c l ∧ evalAtoms vals c l < 65536 := by
  unfold evalAtoms
  induction l generalizing c with
  | nil => exact hc
  | cons k r ih => exact ih (by show 0 ≤ (c * wAt vals k) % 65536 ∧ (c * wAt vals k) % 65536 < 65536; omega)
theorem foldl_word {α : Type} {f : Int → α → Int} (hf : ∀ n a, 0 ≤ f n a ∧ f n a < 65536) : ∀ (l : List α) (n : Int), (0 ≤ n ∧ n < 65536) → 0 ≤ l.foldl f n ∧ l.foldl f n < 65536
  | [], n, h => h
  | a :: r, n, h => foldl_word hf r _ (hf n a)
theorem evalSum_word (vals : List Int) (l : List TrmMono) : 0 ≤ evalSum vals l ∧ evalSum vals l < 65536 := foldl_word (fun n a => by omega) l 0 (by omega)
theorem take_foldl {α β : Type} {f : β → α → β} {z : β} {l : List α} {k : Nat} (hk : k < l.length) : (l.take (k + 1)).foldl f z = f ((l.take k).foldl f z) l[k] := by
  rw [List.take_succ_eq_append_getElem hk, List.foldl_append]; rfl
/-- What an atom comes to, if the atoms ahead of it come to these words. -/
def atomVal (regs loads ins out : List Int) (a : TabAtom) : Int :=
  if a.kind = 1 then wAt regs a.k else if a.kind = 2 then wAt loads a.k else if a.kind = 3 then wAt ins a.k else wrdDo a.k (evalSum out a.x.monos) (evalSum out a.y.monos)
def valsOf (regs loads ins : List Int) (l : List TabAtom) : List Int := l.foldl (fun out a => out ++ [atomVal regs loads ins out a]) []
/-- What atoms come to. -/
def tabVals (t : TabTab) (regs loads ins : List Int) : List Int := if tabOkB t && (wordsB regs && (wordsB loads && wordsB ins)) then valsOf regs loads ins t.atoms else []
theorem vals_take {regs loads ins : List Int} {l : List TabAtom} {k : Nat} (hk : k < l.length) : valsOf regs loads ins (l.take (k + 1)) = valsOf regs loads ins (l.take k) ++ [atomVal regs loads ins (valsOf regs loads ins (l.take k)) l[k]] := take_foldl hk
theorem atomVal_word {regs loads ins out : List Int} (h1 : wordsB regs = true) (h2 : wordsB loads = true) (h3 : wordsB ins = true) (a : TabAtom) : 0 ≤ atomVal regs loads ins out a ∧ atomVal regs loads ins out a < 65536 := by
  unfold atomVal
  repeat' split
  · exact wAt_word h1 _
  · exact wAt_word h2 _
  · exact wAt_word h3 _
  · exact wordB_iff.1 (wrdDo_word _ _ _)
theorem vals_word {regs loads ins : List Int} (h1 : wordsB regs = true) (h2 : wordsB loads = true) (h3 : wordsB ins = true) (l : List TabAtom) : ∀ k, k ≤ l.length → wordsB (valsOf regs loads ins (l.take k)) = true
  | 0, _ => by rw [List.take_zero]; rfl
  | k + 1, h => by
    rw [vals_take (show k < l.length by omega)]
    refine wordsB_iff.2 fun x hx => ?_
    rcases List.mem_append.1 hx with hx | hx
    · exact wordsB_iff.1 (vals_word h1 h2 h3 l k (by omega)) x hx
    · simp at hx; subst hx; exact atomVal_word h1 h2 h3 _
theorem tabOk_at {l : List TabAtom} (h : tabOkB ⟨l⟩ = true) {k : Nat} (hk : k < l.length) : atomOkB l[k] (k : Int) = true := by
  unfold tabOkB at h
  simp only [Bool.and_eq_true] at h
  have h1 := allB_at h.2 hk
  unfold atomAtOk at h1
  simp only [Bool.and_eq_true] at h1
  rw [gA_at l k hk] at h1
  exact h1.1
end Go.Proofs.Ytmbclopkopfngaa

namespace Go.Proofs.Ytmbclopkopfngaa
open Go.RowKit

set_option linter.unusedVariables false
set_option linter.unusedSimpArgs false
set_option maxRecDepth 100000

set_option maxHeartbeats 2000000 in
theorem implWords_any (l : List Int) (v : Value) (w : World) (h : Sl w (Old w) v l) :
    Calls Try.prog 37 #[v] w fun e w' => e = .returned (.bool (wordsB l)) ∧ w = w' := by
  obtain ⟨A, c, rfl, hl, hm⟩ := h.form
  unfold maxLen at hm
  go_enter Try.func37, Try.ntmps37
  go_wp2
  go_loop [4, 7] (fun _ i => ∃ k : Nat, k ≤ l.length ∧ i = .int .i64 k ∧ Hid (∀ a, a ∈ l.take k → wordB a = true)) (fun _ i => l.length - (intOf i).toNat)
  case atStart => exact ⟨0, by omega, rfl, by intro a ha; simp at ha⟩
  case round =>
    obtain ⟨k, hk, rfl, HN⟩ := hrel
    by_cases hlt : k < l.length
    · obtain ⟨b, off, rfl, hbo, hk0, e0⟩ := at_Int h hlt
      have z0 : (0 : Int) ≤ (k : Int) := by omega
      have z1 : (k : Int) < (l.length : Int) := by omega
      have hiw := in_word l[k]
      cases hq : wordB l[k]
      · have HF := hide (words_no hlt hq)
        go_wp2_with (go_at_call 32; refine (implWrdOk_any _ _).mono ?_; rintro e w' ⟨rfl, rfl⟩)
        go_ret
        exact ⟨by rw [HF.out]; rfl, rfl⟩
      · have HT := hide (words_next hlt HN.out hq)
        go_wp2_with (go_at_call 32; refine (implWrdOk_any _ _).mono ?_; rintro e w' ⟨rfl, rfl⟩)
        go_round
        case rel => exact ⟨k + 1, by omega, by go_num, HT.out⟩
        case measure => (simp [intOf]; try omega)
    · obtain rfl : k = l.length := by omega
      have HF := hide (words_all HN.out)
      go_wp2
      go_ret
      exact ⟨by rw [HF.out]; rfl, rfl⟩

theorem implWord_any (l : List Int) (k : Int) (v : Value) (w : World) (h : Sl w (Old w) v l) (hk : 0 ≤ k) : Calls Try.prog 38 #[v, .int .i64 k] w fun e w' => e = .returned (.int .i64 (wAt l k)) ∧ w = w' := by
  obtain ⟨A, c, rfl, hl, hm⟩ := h.form
  unfold maxLen at hm
  obtain ⟨K, rfl⟩ := Int.eq_ofNat_of_zero_le hk
  have q0 : decide ((K : Int) < 0) = false := decide_eq_false (by omega)
  by_cases hlt : K < l.length
  · obtain ⟨b, off, rfl, hbo, hk0, e0⟩ := at_Int h hlt
    have z0 : (0 : Int) ≤ (K : Int) := by omega
    have z1 : (K : Int) < (l.length : Int) := by omega
    have q1 : decide ((K : Int) ≥ (l.length : Int)) = false := decide_eq_false (by omega)
    have q2 : decide ((l.length : Int) ≤ (K : Int)) = false := decide_eq_false (by omega)
    have HV := hide (wAt_in hlt)
    go_enter Try.func38, Try.ntmps38
    go_wp2
    go_ret
    exact ⟨by rw [HV.out]; rfl, rfl⟩
  · have q1 : decide ((K : Int) ≥ (l.length : Int)) = true := decide_eq_true (by omega)
    have q2 : decide ((l.length : Int) ≤ (K : Int)) = true := decide_eq_true (by omega)
    have HV := hide (wAt_out (l := l) (k := (K : Int)) (by omega))
    go_enter Try.func38, Try.ntmps38
    go_wp2
    go_ret
    exact ⟨by rw [HV.out]; rfl, rfl⟩

end Go.Proofs.Ytmbclopkopfngaa
