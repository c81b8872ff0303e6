/-
  CacFind, of the reference and of the program: the first entry for an address, or -1.
-/
import Derived.Test.YtaehbokpnahakaaRows
import Derived.Test.YtaehbokpnahakaaTy
namespace Go.Proofs.Ytaehbokpnahakaa
open Go.RowKit
def cacFind (l : List CacEntry) (pc : Int) : Int := findI (fun e => e.block.pc == pc) l

set_option maxHeartbeats 1000000 in
theorem specCacFind_any (l : List CacEntry) (v : Value) (pc : Int) (w : World) (h : Sl w (Old w) v l) :
    Calls Try.prog 6 #[v, .int .i64 pc] w fun e w' => e = .returned (.int .i64 (cacFind l pc)) ∧ Ext w w' := by
  obtain ⟨A, c, rfl, hl, hm⟩ := h.form
  unfold maxLen at hm
  go_enter Try.func6, Try.ntmps6
  go_wp2
  go_loop [5] (fun i => ∃ k : Nat, k ≤ l.length ∧ i = .int .i64 k ∧ Hid (∀ a, a ∈ l.take k → (a.block.pc == pc) = false)) (fun i => l.length - (intOf i).toNat)
  case atStart => exact ⟨0, by omega, rfl, by intro a ha; simp at ha⟩
  case round =>
    obtain ⟨k, hk, rfl, HN⟩ := hrel
    by_cases hlt : k < l.length
    · obtain ⟨b, off, v1, v2, rfl, hbo, hk0, hv1, hv2, e0, e1, e2, e3, e4, e5, e6, e7⟩ := at_CacEntry h hlt
      have z0 : (0 : Int) ≤ (k : Int) := by omega
      have z1 : (k : Int) < (l.length : Int) := by omega
      by_cases hq : (l[k].block.pc == pc) = true
      · have HF := hide (findI_hit (fun e : CacEntry => e.block.pc == pc) l k hlt HN.out hq)
        go_wp2
        go_ret
        exact ⟨by rw [show cacFind l pc = k from HF.out]; rfl, Ext.refl _⟩
      · have hq : (l[k].block.pc == pc) = false := by simpa using hq
        have HT := hide (take_next (fun e : CacEntry => e.block.pc == pc) l k hlt HN.out hq)
        go_wp2
        go_round
        case rel => exact ⟨k + 1, by omega, by go_num, HT.out⟩
        case measure => simp [intOf]; omega
    · obtain rfl : k = l.length := by omega
      have HF := hide (findI_miss (fun e : CacEntry => e.block.pc == pc) l (by have := HN.out; rwa [List.take_length] at this))
      go_wp2
      go_ret
      exact ⟨by rw [show cacFind l pc = -1 from HF.out]; rfl, Ext.refl _⟩

set_option maxHeartbeats 1000000 in
theorem cacFindFn_any (o : CacEntry) (v1 v2 : Value) (pc : Int) (g : Nat) (w : World) (hg : w.cell? ⟨g, 0, none⟩ = some (.int .i64 pc)) :
    Calls Try.prog 21 #[.agg #[v1, .int .i64 o.block.pc, .int .i64 o.block.len, v2, .int .i64 o.block.fin, .int .i64 o.block.x, .int .i64 o.block.y, .int .i64 o.block.k], .pointer (some ⟨g, 0, none⟩)] w fun e w' => e = .returned (.bool (o.block.pc == pc)) ∧ Ext w w' := by
  have hgl : g < w.heap.size := cell_lt hg
  go_enter Try.func21, Try.ntmps21
  go_wp2
  go_ret
  exact ⟨rfl, (Ext.refl _).alloc _ _⟩

set_option maxHeartbeats 1000000 in
theorem indexCacFind_any (l : List CacEntry) (v : Value) (pc : Int) (g : Nat) (w : World) (h : Sl w (Old w) v l) (hg : w.cell? ⟨g, 0, none⟩ = some (.int .i64 pc)) :
    Calls Try.prog 20 #[v, .func (.func 21) #[] #[.pointer (some ⟨g, 0, none⟩)]] w fun e w' => e = .returned (.int .i64 (cacFind l pc)) ∧ Ext w w' := by
  obtain ⟨A, c, rfl, hl, hm⟩ := h.form
  unfold maxLen at hm
  have hgl : g < w.heap.size := cell_lt hg
  have HG := hide hg
  clear hg
  go_enter Try.func20, Try.ntmps20
  go_wp2
  go_loopw [5, 8] (fun _ i wr => ∃ k : Nat, k ≤ l.length ∧ i = .int .i64 k ∧ Hid (∀ a, a ∈ l.take k → (a.block.pc == pc) = false) ∧ Ext w wr) (fun _ i _ => l.length - (intOf i).toNat)
  case atStart => exact ⟨0, by omega, rfl, by intro a ha; simp at ha, Ext.refl _⟩
  case round =>
    obtain ⟨k, hk, rfl, HN, he⟩ := hrel
    by_cases hlt : k < l.length
    · obtain ⟨b, off, v1, v2, rfl, hbo, hk0, hv1, hv2, e0, e1, e2, e3, e4, e5, e6, e7⟩ := at_CacEntry (h.ext he) hlt
      have z0 : (0 : Int) ≤ (k : Int) := by omega
      have z1 : (k : Int) < (l.length : Int) := by omega
      go_wp2_with fail
      refine (cacFindFn_any l[k] _ _ pc g _ ((he.cell hgl).trans HG.out)).mono ?_
      rintro e w1 ⟨rfl, hx⟩
      have he1 := he.trans hx
      by_cases hq : (l[k].block.pc == pc) = true
      · have HF := hide (findI_hit (fun e : CacEntry => e.block.pc == pc) l k hlt HN.out hq)
        go_wp2
        go_ret
        exact ⟨by rw [show cacFind l pc = k from HF.out]; rfl, he1⟩
      · have hq : (l[k].block.pc == pc) = false := by simpa using hq
        have HT := hide (take_next (fun e : CacEntry => e.block.pc == pc) l k hlt HN.out hq)
        go_wp2
        go_roundw
        case rel => exact ⟨k + 1, by omega, by go_num, HT.out, he1⟩
        case measure => simp [intOf]; omega
    · obtain rfl : k = l.length := by omega
      have HF := hide (findI_miss (fun e : CacEntry => e.block.pc == pc) l (by have := HN.out; rwa [List.take_length] at this))
      go_wp2
      go_ret
      exact ⟨by rw [show cacFind l pc = -1 from HF.out]; rfl, he⟩

set_option maxHeartbeats 1000000 in
theorem implCacFind_any (l : List CacEntry) (v : Value) (pc : Int) (w : World) (h : Sl w (Old w) v l) :
    Calls Try.prog 8 #[v, .int .i64 pc] w fun e w' => e = .returned (.int .i64 (cacFind l pc)) ∧ Ext w w' := by
  obtain ⟨A, c, rfl, hl, hm⟩ := h.form
  go_enter Try.func8, Try.ntmps8
  go_wp2_with fail
  refine (indexCacFind_any l _ pc _ _ (h.ext ((Ext.refl _).alloc _ _)) (by simp)).mono ?_
  rintro e w1 ⟨rfl, hx⟩
  go_wp2
  go_ret
  exact ⟨rfl, ((Ext.refl _).alloc _ _).trans hx⟩
end Go.Proofs.Ytaehbokpnahakaa
