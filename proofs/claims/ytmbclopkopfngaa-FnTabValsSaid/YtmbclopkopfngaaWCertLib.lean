/-
  CertLib, Cap0Lib, To, LaI, Vals
-/
import Derived.Test.YtmbclopkopfngaaWAppLib
import Derived.Test.YtmbclopkopfngaaWMarkLib
import Derived.Test.YtmbclopkopfngaaWRowLib
import Derived.Test.YtmbclopkopfngaaWTy
import Derived.Test.YtmbclopkopfngaaWRegLib
import Derived.Test.YtmbclopkopfngaaWPolT
import Derived.Test.YtmbclopkopfngaaWReg2Lib
import Derived.Test.YtmbclopkopfngaaWValPure
import Derived.Test.YtmbclopkopfngaaRows
import Derived.Deep.DeepCutAuto
namespace Go.Proofs.Ytmbclopkopfngaa
open Go.RowKit
set_option linter.unusedVariables false
set_option linter.unusedSimpArgs false

theorem flatten_drop_sub (Fs : List (List Nat)) (k : Nat) : ((Fs.drop k).flatten).Sublist Fs.flatten := by
  induction k generalizing Fs with
  | zero => simp
  | succ k ih =>
    cases Fs with
    | nil => simp
    | cons G Gs => simp only [List.drop_succ_cons, List.flatten_cons]; exact (ih Gs).trans (List.sublist_append_right _ _)

/-- 's[k:]', k an index. -/
theorem OwnSl.drop {α : Type} [Own α] {w0 w : World} {A : Option Addr} {n c : Nat} {l : List α} {F : List Nat} (h : OwnSl w (.slice A n c) l F) (hf : Fr w0 w F) {k : Nat} (hk : k < l.length) :
    ∃ (b off : Nat) (F' : List Nat), A = some ⟨b, off, none⟩ ∧ OwnSl w (.slice (some ⟨b, off + k * Rep.sz α, none⟩) (n - k) (c - k)) (l.drop k) F' ∧ Fr w0 w F' := by
  obtain ⟨A', c', h1, h2, h3, h0, h4, h5⟩ := h
  injection h1 with e1 e2 e3
  subst e1 e2 e3
  have hne : l ≠ [] := by intro e; simp [e] at hk
  obtain ⟨b, off, Fs, rfl, rfl, hlen, hfz, hel⟩ := h5 hne
  have hsub : (b :: (Fs.drop k).flatten).Sublist (b :: Fs.flatten) := (flatten_drop_sub Fs k).cons_cons b
  refine ⟨b, off, b :: (Fs.drop k).flatten, rfl, ⟨_, _, by rw [List.length_drop], by rw [List.length_drop]; omega, by omega, fun h => by simp at h, fun h => ?_, fun _ => ⟨b, _, Fs.drop k, rfl, rfl, by simp [hlen], hfz, fun i a Fi ha hF => ?_⟩⟩, ?_, fun x hx => hf.2 x (hsub.subset hx)⟩
  · have := congrArg List.length h; simp at this; omega
  · rw [List.getElem?_drop] at ha hF
    obtain ⟨vs, g1, g2⟩ := hel (k + i) a Fi ha hF
    refine ⟨vs, g1, fun j u hu => ?_⟩
    rw [← g2 j u hu, Nat.add_mul]
    congr 2
    omega
  · exact hsub.nodup hf.1

/-- What reads in blocks that are there reads so in a world that has grown. -/
theorem OwnSl.up {α : Type} [Own α] {w0 w w' : World} {v : Value} {l : List α} {F : List Nat} (h : OwnSl w v l F) (hf : Fr w0 w F) (e : Ext w w') : OwnSl w' v l F :=
  h.stay fun b hb => e.heap (hf.2 b hb).2
theorem Fr.lt {w0 w : World} {F : List Nat} (h : Fr w0 w F) : ∀ x, x ∈ F → x < w.heap.size := fun x hx => (h.2 x hx).2
theorem Fr.apart {a b c d : World} {F G : List Nat} (h : Fr a b F) (k : Fr c d G) (hl : b.heap.size ≤ c.heap.size) : ∀ x, x ∈ F → x ∉ G := fun x hx hg => by
  have := (h.2 x hx).2; have := (k.2 x hg).1; omega
theorem Fr.inl {a b : World} {F G : List Nat} (h : Fr a b (F ++ G)) : Fr a b F := ⟨(List.nodup_append.1 h.1).1, fun x hx => h.2 x (List.mem_append_left _ hx)⟩
theorem Fr.inr {a b : World} {F G : List Nat} (h : Fr a b (F ++ G)) : Fr a b G := ⟨(List.nodup_append.1 h.1).2.1, fun x hx => h.2 x (List.mem_append_right _ hx)⟩
theorem Sl.drop {α : Type} [Rep α] {w : World} {S : Nat → Prop} {b off n c : Nat} {l : List α} (h : Sl w S (.slice (some ⟨b, off, none⟩) n c) l) {k : Nat} (hk : k < l.length) :
    Sl w S (.slice (some ⟨b, off + k * Rep.sz α, none⟩) (n - k) (c - k)) (l.drop k) := by
  obtain ⟨A', c', h1, h2, h3, h0, h4⟩ := h
  injection h1 with e1 e2 e3
  subst e1 e2 e3
  have hne : l ≠ [] := by intro e; simp [e] at hk
  obtain ⟨b', off', e, hb, hel⟩ := h4 hne
  injection e with e
  injection e with e1 e2
  subst e1 e2
  refine ⟨_, _, by rw [List.length_drop], by rw [List.length_drop]; omega, by omega, fun h => by simp at h, fun _ => ⟨b, _, rfl, hb, fun i a ha => ?_⟩⟩
  rw [List.getElem?_drop] at ha
  obtain ⟨vs, g1, g2⟩ := hel (k + i) a ha
  refine ⟨vs, g1, fun j u hu => ?_⟩
  rw [← g2 j u hu, Nat.add_mul]
  congr 2
  omega
theorem blk_snoc {α : Type} [Bulk α] (l : List α) (a : α) : Bulk.blk (l ++ [a]) = Bulk.blk l + 1 + Bulk.blk a := by
  rw [blk_list, blk_list]; simp; omega
end Go.Proofs.Ytmbclopkopfngaa

namespace Go.Proofs.Ytmbclopkopfngaa
open Go.RowKit
set_option linter.unusedVariables false
set_option linter.unusedSimpArgs false

/-- A slice of one-cell elements whose block has a cell for each place up to its capacity. -/
def Cap (e : TypeId) (w : World) (v : Value) : Prop := ∀ (a : Addr) (n c : Nat), v = .slice (some a) n c → ∃ (g : Nat) (cur : Array Value), a = ⟨g, 0, none⟩ ∧ w.heap[g]? = some (.cells cur e (0, 0)) ∧ cur.size = c
theorem Cap.nil (e : TypeId) (w : World) : Cap e w (.slice none 0 0) := fun a n c h => by simp at h
theorem Cap.of_app {w wr : World} {e : TypeId} {v : Value} {l : List Int} {Fs : List (List Nat)} {xs : List Value} (h : App w wr e v l Fs xs) : Cap e wr v := by
  intro a n c hv
  rcases h.row.2 with ⟨h1, h2⟩ | ⟨g', cap, cur, h1, hb, hh, hnc, hcm, hcs, ht⟩
  · rw [h1] at hv; simp at hv
  · rw [h1] at hv
    injection hv with e1 e2 e3
    injection e1 with e1
    subst e1 e3
    exact ⟨g', cur, rfl, hh, by have : cur.size = cap * 1 := hcs; omega⟩
theorem Cap.ext {w w' : World} {e : TypeId} {v : Value} (h : Cap e w v) (k : Ext w w') : Cap e w' v := by
  intro a n c hv
  obtain ⟨g, cur, h0, hh, hs⟩ := h a n c hv
  exact ⟨g, cur, h0, (k.heap (Array.getElem?_eq_some_iff.1 hh).1).trans hh, hs⟩
theorem Cap.set {w : World} {e : TypeId} {v : Value} (h : Cap e w v) (p : Addr) (u : Value) : Cap e (w.setCell p u) v := by
  intro a n c hv
  obtain ⟨g, cur, h0, hh, hs⟩ := h a n c hv
  by_cases hp : p.block = g
  · refine ⟨g, if p.spot.isSome then cur else cur.setIfInBounds p.off u, h0, ?_, by split <;> simpa using hs⟩
    simp only [World.setCell, Array.getElem?_modify, hp, if_true, hh]
    rfl
  · exact ⟨g, cur, h0, (heap_set w p u g hp).trans hh, hs⟩
theorem Cap.block {w w' : World} {e : TypeId} {g o n c : Nat} (h : Cap e w (.slice (some ⟨g, o, none⟩) n c)) (k : w'.heap[g]? = w.heap[g]?) : Cap e w' (.slice (some ⟨g, o, none⟩) n c) := by
  intro a n' c' hv
  obtain ⟨g', cur, h0, hh, hs⟩ := h a n' c' hv
  injection hv with e1 e2 e3
  injection e1 with e1
  have e4 := e1.trans h0
  injection e4 with e5
  subst e5
  exact ⟨g, cur, h0, k.trans hh, hs⟩
theorem Cap.len {w : World} {e : TypeId} {a : Option Addr} {n n' c : Nat} (h : Cap e w (.slice a n c)) : Cap e w (.slice a n' c) := by
  intro b m d hv
  injection hv with e1 e2 e3
  subst e1 e3
  exact h b n _ rfl

end Go.Proofs.Ytmbclopkopfngaa

namespace Go.Proofs.Ytmbclopkopfngaa
open Go.RowKit

set_option linter.unusedVariables false
set_option linter.unusedSimpArgs false
set_option maxRecDepth 100000

theorem infInt : (Try.prog.info? 3).map (fun i => (i.zero, i.size, i.bytes)) = some (some (.int .i64 0), 1, 8) := by kernel_rfl

theorem infTrmMono : (Try.prog.info? 79).map (fun i => (i.zero, i.size, i.bytes)) = some (some (.agg #[.int .i64 0, .slice none 0 0]), 2, 32) := by kernel_rfl

theorem infTrmPoly : (Try.prog.info? 28).map (fun i => (i.zero, i.size, i.bytes)) = some (some (.agg #[.slice none 0 0]), 1, 24) := by kernel_rfl

theorem infTabAtom : (Try.prog.info? 30).map (fun i => (i.zero, i.size, i.bytes)) = some (some (.agg #[.int .i64 0, .int .i64 0, .slice none 0 0, .slice none 0 0]), 4, 64) := by kernel_rfl

end Go.Proofs.Ytmbclopkopfngaa

namespace Go.Proofs.Ytmbclopkopfngaa
open Go.RowKit

set_option linter.unusedVariables false
set_option linter.unusedSimpArgs false
set_option maxRecDepth 100000

set_option maxHeartbeats 8000000 in
theorem laInts_any (la lb : List Int) (va vb : Value) (w : World) (ha : Sl w (Old w) va la) (hb : Sl w (Old w) vb lb) :
    Calls Try.prog 14 #[va, vb] w fun e w' => e = .returned (.bool (decide (la = lb))) ∧ Ext w w' := by
  obtain ⟨A, ca, rfl, hla, hma⟩ := ha.form
  obtain ⟨B, cb, rfl, hlb, hmb⟩ := hb.form
  unfold maxLen at hma hmb
  by_cases hl : la.length = lb.length
  · have hn : ((la.length : Int) != (lb.length : Int)) = false := by simp [hl]
    have HL := hide hl
    clear hl
    go_enter Try.func14, Try.ntmps14
    go_wp2
    go_loopw [5] (fun i wr => ∃ k : Nat, k ≤ la.length ∧ i = .int .i64 k ∧ Ext w wr ∧ la.take k = lb.take k) (fun i _ => la.length - (intOf i).toNat)
    case atStart => exact ⟨0, by omega, rfl, Ext.refl _, rfl⟩
    case round =>
      obtain ⟨w1, hwr⟩ : ∃ w1 : World, w1 = wr := ⟨_, rfl⟩
      subst hwr
      obtain ⟨k, hk, rfl, he, ht⟩ := hrel
      have HT := hide ht
      clear ht
      by_cases hlt : k < la.length
      · have hlt' : k < lb.length := by have := HL.out; omega
        obtain ⟨b, off, rfl, hbo, hkb, e0⟩ := at_Int (ha.ext he) hlt
        obtain ⟨b', off', rfl, hbo', hkb', g0⟩ := at_Int (hb.ext he) hlt'
        have hbo1 : b < w1.heap.size := hbo
        have hbo1' : b' < w1.heap.size := hbo'
        have z0 : (0 : Int) ≤ (k : Int) := by omega
        have z1 : (k : Int) < (la.length : Int) := by omega
        have z2 : (k : Int) < (lb.length : Int) := by omega
        have TS := hide (take_both la lb k hlt hlt' HT.out)
        go_upto_region 6 with fail
        have hS : ∀ w', Ext w1 w' → ∀ bb oo, bb < w1.heap.size → w'.cell? ⟨bb, oo, none⟩ = w1.cell? ⟨bb, oo, none⟩ := fun w' hx bb oo hb => hx.cell hb
        refine wp_region_plan (fun w' => Ext w1 w') 8 (.float 0 (.float 1 (.float 2 (.float 3 (.float 4 (.float 5 (.float 6 (.float 7 (.tail 8))))))))) (by kernel_rfl) (by kernel_rfl) (Ext.refl _).drew ?_
        iterate 8 ((refine Plan.float_step (v := ?_) rfl (by rfl) (fun _ _ _ h => h) (fun w' hSw => ?_) ?_; rotate_left; · (go_simp; try with_reducible rfl)); (try simp only [Act.put, List.setIfInBounds_toArray, List.set_cons_zero, List.set_cons_succ]))
        refine Plan.tail_step ?_
        simp only [List.drop_succ_cons, List.drop_zero]
        clear hS
        by_cases hq : la[k] = lb[k]
        · have qe : (la[k] != lb[k]) = false := by simp [hq]
          have HQ := hide hq
          clear hq
          go_wp2
          go_roundw
          case rel => exact ⟨k + 1, by omega, by go_num, Ext.hold he, TS.out.1 HQ.out⟩
          case measure => simp [intOf]; omega
        · have qe : (la[k] != lb[k]) = true := by simp [hq]
          have HQ := hide hq
          clear hq
          go_wp2
          go_ret
          exact ⟨ret_no (TS.out.2 HQ.out), Ext.hold he⟩
      · obtain rfl : k = la.length := by omega
        go_wp2
        go_ret
        exact ⟨ret_yes (take_all la lb HL.out HT.out), he⟩
  · have hn : ((la.length : Int) != (lb.length : Int)) = true := by simp; omega
    have HL := hide hl
    clear hl
    go_enter Try.func14, Try.ntmps14
    go_wp2
    go_ret
    exact ⟨ret_no (fun e => HL.out (by rw [e])), Ext.refl _⟩

end Go.Proofs.Ytmbclopkopfngaa

namespace Go.Proofs.Ytmbclopkopfngaa
open Go.RowKit

set_option linter.unusedVariables false
set_option linter.unusedSimpArgs false
set_option maxRecDepth 100000

set_option maxHeartbeats 2000000 in
theorem implWords_any (l : List Int) (v : Value) (w : World) (h : Sl w (Old w) v l) :
    Calls Try.prog 37 #[v] w fun e w' => e = .returned (.bool (wordsB l)) ∧ w = w' := by
  obtain ⟨A, c, rfl, hl, hm⟩ := h.form
  unfold maxLen at hm
  go_enter Try.func37, Try.ntmps37
  go_wp2
  go_loop [4, 7] (fun _ i => ∃ k : Nat, k ≤ l.length ∧ i = .int .i64 k ∧ Hid (∀ a, a ∈ l.take k → wordB a = true)) (fun _ i => l.length - (intOf i).toNat)
  case atStart => exact ⟨0, by omega, rfl, by intro a ha; simp at ha⟩
  case round =>
    obtain ⟨k, hk, rfl, HN⟩ := hrel
    by_cases hlt : k < l.length
    · obtain ⟨b, off, rfl, hbo, hk0, e0⟩ := at_Int h hlt
      have z0 : (0 : Int) ≤ (k : Int) := by omega
      have z1 : (k : Int) < (l.length : Int) := by omega
      have hiw := in_word l[k]
      cases hq : wordB l[k]
      · have HF := hide (words_no hlt hq)
        go_wp2_with (go_at_call 32; refine (implWrdOk_any _ _).mono ?_; rintro e w' ⟨rfl, rfl⟩)
        go_ret
        exact ⟨by rw [HF.out]; rfl, rfl⟩
      · have HT := hide (words_next hlt HN.out hq)
        go_wp2_with (go_at_call 32; refine (implWrdOk_any _ _).mono ?_; rintro e w' ⟨rfl, rfl⟩)
        go_round
        case rel => exact ⟨k + 1, by omega, by go_num, HT.out⟩
        case measure => (simp [intOf]; try omega)
    · obtain rfl : k = l.length := by omega
      have HF := hide (words_all HN.out)
      go_wp2
      go_ret
      exact ⟨by rw [HF.out]; rfl, rfl⟩

set_option maxHeartbeats 2000000 in
theorem specWords_any (l : List Int) (v : Value) (w : World) (h : Sl w (Old w) v l) :
    Calls Try.prog 41 #[v] w fun e w' => e = .returned (.bool (wordsB l)) ∧ w = w' := by
  obtain ⟨A, c, rfl, hl, hm⟩ := h.form
  unfold maxLen at hm
  go_enter Try.func41, Try.ntmps41
  go_wp2
  go_loop [3] (fun i => ∃ k : Nat, k ≤ l.length ∧ i = .int .i64 k ∧ Hid (∀ a, a ∈ l.take k → wordB a = true)) (fun i => l.length - (intOf i).toNat)
  case atStart => exact ⟨0, by omega, rfl, by intro a ha; simp at ha⟩
  case round =>
    obtain ⟨k, hk, rfl, HN⟩ := hrel
    by_cases hlt : k < l.length
    · obtain ⟨b, off, rfl, hbo, hk0, e0⟩ := at_Int h hlt
      have z0 : (0 : Int) ≤ (k : Int) := by omega
      have z1 : (k : Int) < (l.length : Int) := by omega
      cases hq : wordB l[k]
      · have HF := hide (words_no hlt hq)
        go_wp2_with (go_at_call 46; refine (specWrdOk_any _ _).mono ?_; rintro e w' ⟨rfl, rfl⟩)
        go_ret
        exact ⟨by rw [HF.out]; rfl, rfl⟩
      · have HT := hide (words_next hlt HN.out hq)
        go_wp2_with (go_at_call 46; refine (specWrdOk_any _ _).mono ?_; rintro e w' ⟨rfl, rfl⟩)
        go_round
        case rel => exact ⟨k + 1, by omega, by go_num, HT.out⟩
        case measure => (simp [intOf]; try omega)
    · obtain rfl : k = l.length := by omega
      have HF := hide (words_all HN.out)
      go_wp2
      go_ret
      exact ⟨by rw [HF.out]; rfl, rfl⟩

theorem implWord_any (l : List Int) (k : Int) (v : Value) (w : World) (h : Sl w (Old w) v l) (hk : 0 ≤ k) : Calls Try.prog 38 #[v, .int .i64 k] w fun e w' => e = .returned (.int .i64 (wAt l k)) ∧ w = w' := by
  obtain ⟨A, c, rfl, hl, hm⟩ := h.form
  unfold maxLen at hm
  obtain ⟨K, rfl⟩ := Int.eq_ofNat_of_zero_le hk
  have q0 : decide ((K : Int) < 0) = false := decide_eq_false (by omega)
  by_cases hlt : K < l.length
  · obtain ⟨b, off, rfl, hbo, hk0, e0⟩ := at_Int h hlt
    have z0 : (0 : Int) ≤ (K : Int) := by omega
    have z1 : (K : Int) < (l.length : Int) := by omega
    have q1 : decide ((K : Int) ≥ (l.length : Int)) = false := decide_eq_false (by omega)
    have q2 : decide ((l.length : Int) ≤ (K : Int)) = false := decide_eq_false (by omega)
    have HV := hide (wAt_in hlt)
    go_enter Try.func38, Try.ntmps38
    go_wp2
    go_ret
    exact ⟨by rw [HV.out]; rfl, rfl⟩
  · have q1 : decide ((K : Int) ≥ (l.length : Int)) = true := decide_eq_true (by omega)
    have q2 : decide ((l.length : Int) ≤ (K : Int)) = true := decide_eq_true (by omega)
    have HV := hide (wAt_out (l := l) (k := (K : Int)) (by omega))
    go_enter Try.func38, Try.ntmps38
    go_wp2
    go_ret
    exact ⟨by rw [HV.out]; rfl, rfl⟩

theorem specAt_any (l : List Int) (k : Int) (v : Value) (w : World) (h : Sl w (Old w) v l) (hk : 0 ≤ k) : Calls Try.prog 42 #[v, .int .i64 k] w fun e w' => e = .returned (.int .i64 (wAt l k)) ∧ w = w' := by
  obtain ⟨A, c, rfl, hl, hm⟩ := h.form
  unfold maxLen at hm
  obtain ⟨K, rfl⟩ := Int.eq_ofNat_of_zero_le hk
  have q0 : decide ((K : Int) < 0) = false := decide_eq_false (by omega)
  by_cases hlt : K < l.length
  · obtain ⟨b, off, rfl, hbo, hk0, e0⟩ := at_Int h hlt
    have z0 : (0 : Int) ≤ (K : Int) := by omega
    have z1 : (K : Int) < (l.length : Int) := by omega
    have q1 : decide ((K : Int) ≥ (l.length : Int)) = false := decide_eq_false (by omega)
    have q2 : decide ((l.length : Int) ≤ (K : Int)) = false := decide_eq_false (by omega)
    have HV := hide (wAt_in hlt)
    go_enter Try.func42, Try.ntmps42
    go_wp2
    go_ret
    exact ⟨by rw [HV.out]; rfl, rfl⟩
  · have q1 : decide ((K : Int) ≥ (l.length : Int)) = true := decide_eq_true (by omega)
    have q2 : decide ((l.length : Int) ≤ (K : Int)) = true := decide_eq_true (by omega)
    have HV := hide (wAt_out (l := l) (k := (K : Int)) (by omega))
    go_enter Try.func42, Try.ntmps42
    go_wp2
    go_ret
    exact ⟨by rw [HV.out]; rfl, rfl⟩

end Go.Proofs.Ytmbclopkopfngaa
