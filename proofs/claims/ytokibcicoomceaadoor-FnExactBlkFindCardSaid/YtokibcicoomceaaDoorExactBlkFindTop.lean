/-
  The statement FnExactBlkFind (the tied card): for every input the law returns true, and each argument and the listed variable read afterwards as they read before. No condition but that the variable reads as the text of the program lays it.
-/
import Derived.Test.YtokibcicoomceaaDoorExactBlkFindLaw
import Derived.Test.YtokibcicoomceaaDoorRd
import Derived.Test.YtokibcicoomceaaDoorLaid
import Derived.Test.YtokibcicoomceaaDoorTie
import Derived.Test.YtokibcicoomceaaDoorCards
import Derived.SevenTiedAt
namespace Go.Proofs.YtokibcicoomceaaDoor
open Go.RowKit
open Go.ChangeShapes Go.WideShapes Go.ChangeAt
set_option linter.unusedVariables false
set_option linter.unusedSimpArgs false
set_option maxRecDepth 100000

set_option maxRecDepth 100000 in
theorem fnExactBlkFind_lifted (os : Os) (started : os.Started) (H : Type) (enc : TypeId × Value → H) :
    ReturnsInHanded {} Tryd.checked os 6 .any (fun w args => (Rows.fnExactBlkFindSpec.pre enc Tryd.prog Tryd.f6 [] false w args ∧ laidMetH Tryd.prog [("loop.example/latimer/impl.forms", Rows.laid_loop_example_latimer_impl_forms)] w) ∧ sizedMet enc Tryd.prog Tryd.f6 (OpenSpec.ofChange Rows.fnExactBlkFindSpec) false w args) (Rows.fnExactBlkFindSpec.post enc Tryd.prog Tryd.f6 false true false false) := by
  refine returnsInHanded_of_change_and (C := Tryd.checked) (X := fun w _ => laidMetH Tryd.prog [("loop.example/latimer/impl.forms", Rows.laid_loop_example_latimer_impl_forms)] w) (fun _ _ _ hh h => h.of_heap hh) prog_own started (by kernel_rfl) Tryd.func6
    (ChangeSpec.witness_shaped (enc := enc) (C := Tryd.checked) (os := os) (X := fun w _ => laidMetH Tryd.prog [("loop.example/latimer/impl.forms", Rows.laid_loop_example_latimer_impl_forms)] w) false (World.doorLaid Tryd.prog 46 os) #[.agg #[.slice none 0 0, .int .i64 0, .slice none 0 0, .int .i64 0, .bool false, .bool false, .int .i64 0, .slice none 0 0, .slice none 0 0, .int .i64 0]] 8 rfl (World.shaped_of_RefB (by kernel_rfl) (by kernel_rfl)) (by kernel_rfl) (by kernel_rfl) (by kernel_rfl) (door_met os _)) ?_
  intro W base args ds gs before hval0 hW _ _ hL _
  have hval : ∀ (j : Nat) t v, Tryd.f6.params[j]? = some t → args[j]? = some v → Value.okWide Tryd.prog W .any base t v := hval0
  have hlt := fun p (hp : p ∈ before) => hW.lt p hp
  have hW' := hW
  obtain ⟨p, q, hA0, hV0, rfl, hfz, hnd⟩ := hW
  have hV : DataW.TrodVars enc Tryd.prog W (fun _ => true) ["loop.example/latimer/impl.forms"] gs q := hV0
  obtain ⟨gg, tt, cc, ff, dd, pp, rfl, -, -, -, -, -⟩ := trodVars_one hV
  have hA : DataW.TrodAll enc Tryd.prog W 0 (fun _ => true) true Tryd.f6.params.toList args.toList ds p := hA0
  rw [Tryd.params6] at hA hval
  obtain ⟨v0, vs0, d0, ds0, p0, q0, hargs, rfl, rfl, h0, r0⟩ := trodAll_cons hA
  obtain ⟨rfl, rfl, rfl⟩ := trodAll_nil r0
  obtain rfl : args = #[v0] := by cases args; simp_all
  have g0 := h0
  obtain ⟨fu0, hf0⟩ := g0
  obtain ⟨m, ρ0⟩ := rd_MchMach.2.2 _ _ _ _ _ _ _ _ hf0
  obtain ⟨cs0, rfl, _⟩ := okWide_struct Tryd.underlying48 (hval 0 48 v0 rfl rfl)
  obtain ⟨x0_0, x0_1, x0_2, x0_3, e0, k0, s0_0, s0_1, s0_2, s0_3⟩ := ρ0
  obtain rfl : cs0 = #[x0_0, .int .i64 m.pc, x0_1, .int .i64 m.save, .bool m.lets, .bool m.waits, .int .i64 m.halt, x0_2, x0_3, .int .i64 m.count] := Array.toList_inj.1 e0
  clear hA0 hval0 hV0
  refine (lawExactBlkFind_any m _ _ _ _ _ s0_0 s0_1 s0_2 s0_3 k0 _ (forms_of_laid hL)).mono fun e W1 ⟨he, hx⟩ => ?_
  subst he
  exact ⟨_, rfl, post_of_ext (pa := p0 ++ ([])) (pv := q) hW' (fun _ _ _ => (trodAll_cons_mk (shut_bool Tryd.underlying4 _) trodAll_mk0)) (fun sp hsp => (trodAll_cons_mk (WideElems.Trod_stays prog_laidOut (by kernel_rfl) (by decide +kernel) h0 (fun x hx0 => hx.below.same (hlt x (by simp [hx0]))) (fun x hx0 => hsp x (by simp [hx0]))) trodAll_mk0)) (fun sp hsp => vars_stay hV hx (fun x hx0 => hlt x (by simp [hx0])) sp (fun x hx0 => hsp x (by simp [hx0]))) rfl
    hx (ok_one (by kernel_rfl) rfl (okWide_bool_mk Tryd.underlying4 _))⟩

theorem fnExactBlkFind_row : Rows.FnExactBlkFindSaid :=
  OpenClaim.holds_of_wide 6 Tryd.f6 rfl rfl rfl rfl rfl rfl rfl ⟨rfl, rfl, rfl, rfl, rfl⟩ rfl rfl rfl rfl rfl (by kernel_rfl) Tryd.func6 (by kernel_rfl)
    (of_decide_eq_true (by kernel_rfl)) (by unfold Func.isWrapper; first | (rw [if_pos (by decide +kernel)]; kernel_rfl) | (rw [if_neg (by decide +kernel)]; exact ⟨rfl, rfl⟩))
    (fun os started H enc _ => fnExactBlkFind_lifted os started H enc)

/-- The statement: the tied card. -/
theorem fnExactBlkFind_holds : Rows.FnExactBlkFindCardSaid :=
  Claim7.holds_tied_plain_at .later [] [.widerDeep] true (true, "e9c27eb4a770361095902e0ff07b7d1811f55cd5bb4da066faa199bb90a27930") false fnExactBlkFind_row (fun _ h => by cases h) (by kernel_rfl) (fun _ h => by cases h) fnExactBlkFind_row_tie rfl ⟨rfl, rfl⟩ (by kernel_rfl) rfl
    (fun f fn hf hfn => by
      obtain rfl : f = 6 := Option.some.inj ((show Tryd.prog.funcNamed "loop.example/latimer/laws.FnExactBlkFind" = some 6 by kernel_rfl).symm.trans hf) |>.symm
      obtain rfl : fn = Tryd.f6 := (Option.some.inj (Tryd.func6.symm.trans hfn)).symm
      exact ⟨by kernel_rfl, fun j t ht => by
        rw [Tryd.params6] at ht
        have hm : t ∈ [48] := by simpa using Array.mem_of_getElem? ht
        have hall : ([48].all fun u => !Tryd.prog.wantsStandIn u) = true := by kernel_rfl
        exact (show Tryd.prog.wantsStandIn t = false by simpa using List.all_eq_true.1 hall t hm)⟩)
    (by kernel_rfl)

end Go.Proofs.YtokibcicoomceaaDoor
