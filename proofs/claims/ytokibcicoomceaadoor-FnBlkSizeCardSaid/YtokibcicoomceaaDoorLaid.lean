/-
  What the listed variable reads as, and that it reads on so.
-/
import Derived.Test.YtokibcicoomceaaDoorRows
import Derived.Test.YtokibcicoomceaaDoorMachLib
import Derived.Test.YtokibcicoomceaaDoorRead
import Derived.ProofKit
import Derived.LaidMore
import Derived.OpenShut
import Derived.ChangeVars
import Derived.Stop.Joined
import Derived.MakeChecks
namespace Go.Proofs.YtokibcicoomceaaDoor
open Go.RowKit
open Go.ChangeShapes Go.WideShapes Go.ChangeAt
set_option linter.unusedVariables false
set_option linter.unusedSimpArgs false
set_option maxRecDepth 100000

theorem gForms : Tryd.prog.globalNamed "loop.example/latimer/impl.forms" = some 0 := by kernel_rfl
theorem tForms : (Tryd.prog.globals[0]?).map (·.type) = some 99 := by kernel_rfl
theorem prog_own : ownKnob Tryd.prog.godebug = none := by kernel_rfl
theorem prog_laidOut : laidOutB Tryd.prog = true := by kernel_rfl
/-- The door's own heap meets the condition: three closed facts. -/
theorem door_met (os : Os) (args : Array Value) : laidMetH Tryd.prog [("loop.example/latimer/impl.forms", Rows.laid_loop_example_latimer_impl_forms)] ((World.doorLaid Tryd.prog 46 os).forCall (fun _ _ => 0) ⟨#[], args, []⟩).memory :=
  laidMetH_of_parts3 (fuel := 8) (laidMet_of_run' 8 (by kernel_rfl) (by kernel_rfl)) (by kernel_rfl) (by kernel_rfl)
theorem forms_row (k : Nat) (hk : k < 16) (L : List (DataW Unit)) (R : List (DataW Unit)) (h : (Rows.laid_loop_example_latimer_impl_forms : DataW Unit) = .slice L R) : L.length = 16 ∧ ∃ x, L[k]? = some (.agg [.lit (.bool (fD k)), .lit (.bool (fA k)), .lit (.int .i64 (fM k)), x]) := by
  unfold Rows.laid_loop_example_latimer_impl_forms at h
  injection h with h1 h2
  subst h1
  refine ⟨rfl, ?_⟩
  have hc : k = 0 ∨ k = 1 ∨ k = 2 ∨ k = 3 ∨ k = 4 ∨ k = 5 ∨ k = 6 ∨ k = 7 ∨ k = 8 ∨ k = 9 ∨ k = 10 ∨ k = 11 ∨ k = 12 ∨ k = 13 ∨ k = 14 ∨ k = 15 := by omega
  clear hk
  rcases hc with rfl | rfl | rfl | rfl | rfl | rfl | rfl | rfl | rfl | rfl | rfl | rfl | rfl | rfl | rfl | rfl <;> exact ⟨_, rfl⟩
theorem forms_of_laid {W : World} (h : laidMetH Tryd.prog [("loop.example/latimer/impl.forms", Rows.laid_loop_example_latimer_impl_forms)] W) : Forms W.heap.size W := by
  rw [MakeChecks.laidMetH_plain _ _ _ (by kernel_rfl)] at h
  obtain ⟨ps, ⟨g0, t0, cs0, f0, p0, q0, hg0, ht0, hv0, hd0, -, -⟩, -, -⟩ := h
  obtain rfl := Option.some.inj (gForms.symm.trans hg0)
  obtain rfl := Option.some.inj (tForms.symm.trans ht0)
  rcases DataW.trod_slice Tryd.underlying99 hd0 with ⟨_, hx⟩ | ⟨a, len, cap, elems, rest, n, _, hcs, hx, hb, hl, hm, hlen, hel, _⟩
  · exact absurd (congrArg Prod.fst hx) (by intro e; unfold Rows.laid_loop_example_latimer_impl_forms at e; cases e)
  have hD := congrArg Prod.fst hx
  have h16 : elems.length = 16 := by have := (forms_row 0 (by omega) _ _ hD).1; simpa using this
  obtain rfl : len = 16 := by omega
  have ce : Tryd.prog.cellsOf 98 = 4 := by kernel_rfl
  have hel' : ∀ k, k < 16 → ∃ cs', Tryd.prog.cellsOf 98 = 4 ∧ W.cells? 0 (a.add (k * 4)) 4 = some cs' ∧ DataW.trod (fun _ => ()) Tryd.prog W 0 (fun _ => true) false n 98 cs' = elems[k]? := by
    intro k hk
    have h1 := hel k hk
    rw [List.getElem?_eq_getElem (by omega), ce] at h1
    obtain ⟨cs', h2, h3⟩ := Option.bind_eq_some_iff.1 h1
    exact ⟨cs', ce, h2, by rw [h3, List.getElem?_eq_getElem (by omega)]⟩
  have hspot : a.spot = none := by
    obtain ⟨cs', _, h2, _⟩ := hel' 0 (by omega)
    obtain ⟨_, h4, h5⟩ := World.cells?_some h2
    have h6 := h5 0 (by omega)
    rw [List.getElem?_eq_getElem (by rw [h4]; omega)] at h6
    cases hs : a.spot with
    | none => rfl
    | some s =>
      exfalso
      simp [Addr.add, World.cell?, hs] at h6
      split at h6 <;> simp at h6
  obtain ⟨fb, fo, sp⟩ := a
  simp only at hspot
  subst hspot
  have hblt : fb < W.heap.size := by
    obtain ⟨cs', _, h2, _⟩ := hel' 0 (by omega)
    obtain ⟨_, h4, h5⟩ := World.cells?_some h2
    have h6 := h5 0 (by omega)
    rw [List.getElem?_eq_getElem (by rw [h4]; omega), addr_add, addr_add] at h6
    exact cell_lt h6
  have hc0 : W.cell? ⟨0, 0, none⟩ = some (.slice (some ⟨fb, fo, none⟩) 16 cap) := by
    have := World.var?_cell gForms hv0 0
    rw [Array.eq_one_of_toList hcs] at this
    simpa using this
  refine ⟨⟨fb, fo, cap, hc0, hblt, fun k hk => ?_⟩, by omega, Nat.le_refl _⟩
  obtain ⟨cs', _, h2, h3⟩ := hel' k hk
  obtain ⟨_, h4, h5⟩ := World.cells?_some h2
  obtain ⟨x, hxk⟩ := (forms_row k hk _ _ hD).2
  rw [List.getElem?_map] at hxk
  obtain ⟨y, hy, hy1⟩ := Option.map_eq_some_iff.1 hxk
  rw [hy] at h3
  obtain ⟨xs, n2, _, hyx, hlc, hlx, hf⟩ := DataW.trod_struct Tryd.underlying98 h3
  have hlx : xs.length = 4 := hlx
  rw [hyx] at hy1
  injection hy1 with hy1
  match cs', h4, h3, h5, hf, h2, hlc with
  | [c0, c1, c2, c3], _, _, h5, hf, _, _ =>
  match xs, hlx, hy1, hf with
  | [x0, x1, x2, x3], _, hy1, hf =>
  simp only [List.map_cons, List.map_nil, List.cons.injEq] at hy1
  obtain ⟨e0, e1, e2, -, -⟩ := hy1
  have f0 := hf 0 _ rfl
  have f1 := hf 1 _ rfl
  have f2 := hf 2 _ rfl
  have f3 := hf 3 _ rfl
  have cb : Tryd.prog.cellsOf 4 = 1 := by kernel_rfl
  have ci : Tryd.prog.cellsOf 3 = 1 := by kernel_rfl
  have cs : Tryd.prog.cellsOf 96 = 1 := by kernel_rfl
  have f0 : DataW.trod (fun _ => ()) Tryd.prog W 0 (fun _ => true) false n2 4 (([c0, c1, c2, c3].drop 0).take (Tryd.prog.cellsOf 4)) = some x0 := f0
  have f1 : DataW.trod (fun _ => ()) Tryd.prog W 0 (fun _ => true) false n2 4 (([c0, c1, c2, c3].drop 1).take (Tryd.prog.cellsOf 4)) = some x1 := f1
  have f2 : DataW.trod (fun _ => ()) Tryd.prog W 0 (fun _ => true) false n2 3 (([c0, c1, c2, c3].drop 2).take (Tryd.prog.cellsOf 3)) = some x2 := f2
  have f3 : DataW.trod (fun _ => ()) Tryd.prog W 0 (fun _ => true) false n2 96 (([c0, c1, c2, c3].drop 3).take (Tryd.prog.cellsOf 96)) = some x3 := f3
  rw [cb] at f0 f1
  rw [ci] at f2
  rw [cs] at f3
  obtain ⟨b0, q0, r0⟩ := DataW.trod_bool Tryd.underlying4 f0
  obtain ⟨b1, q1, r1⟩ := DataW.trod_bool Tryd.underlying4 f1
  obtain ⟨n0, q2, r2, _⟩ := DataW.trod_int Tryd.underlying3 f2
  have k0 : c0 = .bool b0 := List.head_eq_of_cons_eq q0
  have k1 : c1 = .bool b1 := List.head_eq_of_cons_eq q1
  have k2 : c2 = .int .i64 n0 := List.head_eq_of_cons_eq q2
  clear q0 q1 q2
  subst k0 k1 k2
  rw [r0] at e0
  rw [r1] at e1
  rw [r2] at e2
  injection e0 with e0
  injection e0 with e0
  injection e1 with e1
  injection e1 with e1
  injection e2 with e2
  injection e2 with _ e2
  subst e0 e1 e2
  obtain ⟨sa, sn, sc, hs⟩ : ∃ (sa : Option Addr) (sn sc : Nat), c3 = .slice sa sn sc := by
    rcases DataW.trod_slice Tryd.underlying96 f3 with ⟨hq, _⟩ | ⟨a', l', c', _, _, _, _, hq, _⟩
    · exact ⟨none, 0, 0, List.head_eq_of_cons_eq hq⟩
    · exact ⟨some a', l', c', List.head_eq_of_cons_eq hq⟩
  subst hs
  have g : ∀ j u, [Value.bool (fD k), .bool (fA k), .int .i64 (fM k), .slice sa sn sc][j]? = some u → W.cell? ⟨fb, fo + k * 4 + j, none⟩ = some u := fun j u hu => by
    have hj : j < 4 := (List.getElem?_eq_some_iff.1 hu).1
    have h6 := h5 j hj
    rw [addr_add, addr_add, hu] at h6
    exact h6
  exact ⟨sa, sn, sc, g 0 _ rfl, g 1 _ rfl, g 2 _ rfl, g 3 _ rfl⟩
/-- The listed variable reads on as it read. -/
theorem vars_stay {H : Type} {enc : TypeId × Value → H} {W W' : World} {gs : List (DataW H)} {q : List MemPlace} (hV : DataW.TrodVars enc Tryd.prog W (fun _ => true) ["loop.example/latimer/impl.forms"] gs q) (hx : Ext W W') (hlt : ∀ p, p ∈ q → p.block < W.heap.size) (sp : Nat → Bool) (hsp : ∀ p, p ∈ q → sp p.block = true) :
    DataW.TrodVars enc Tryd.prog W' sp ["loop.example/latimer/impl.forms"] gs q := by
  obtain ⟨g, t, cs, fuel, d, p, rfl, hg, ht, hv, hd, rfl⟩ := trodVars_one hV
  obtain rfl := Option.some.inj (gForms.symm.trans hg)
  obtain rfl := Option.some.inj (tForms.symm.trans ht)
  have h0 : DataW.Trod enc Tryd.prog W 0 (fun _ => true) true 99 (.agg cs) d p := ⟨fuel, hd⟩
  obtain ⟨fuel2, hd2⟩ := WideElems.Trod_stays prog_laidOut (by kernel_rfl) (by decide +kernel) h0 (fun x hx0 => hx.below.same (hlt x (by simp [hx0]))) (fun x hx0 => hsp x (by simp [hx0]))
  have hv2 : W'.var? Tryd.prog "loop.example/latimer/impl.forms" = some cs := by
    unfold World.var? at hv ⊢
    rw [hg] at hv ⊢
    simp only [Option.bind_some] at hv ⊢
    have hlt0 : 0 < W.heap.size := by
      cases hh : W.heap[0]? with
      | none => rw [hh] at hv; simp at hv
      | some o => exact (Array.getElem?_eq_some_iff.1 hh).1
    rw [hx.heap hlt0]
    exact hv
  exact trodVars_mk1 hg ht hv2 hd2

end Go.Proofs.YtokibcicoomceaaDoor
