/-
  The statement FnBlkSize (the tied card): for every input the law returns true, and each argument and the listed variable read afterwards as they read before. No condition but that the variable reads as the text of the program lays it.
-/
import Derived.Test.YtokibcicoomceaaDoorBlkSizeLaw
import Derived.Test.YtokibcicoomceaaDoorRd
import Derived.Test.YtokibcicoomceaaDoorLaid
import Derived.Test.YtokibcicoomceaaDoorTie
import Derived.Test.YtokibcicoomceaaDoorCards
import Derived.SevenTiedAt
namespace Go.Proofs.YtokibcicoomceaaDoor
open Go.RowKit
open Go.ChangeShapes Go.WideShapes Go.ChangeAt
set_option linter.unusedVariables false
set_option linter.unusedSimpArgs false
set_option maxRecDepth 100000

set_option maxRecDepth 100000 in
theorem fnBlkSize_lifted (os : Os) (started : os.Started) (H : Type) (enc : TypeId × Value → H) :
    ReturnsInHanded {} Tryd.checked os 4 .any (fun w args => (Rows.fnBlkSizeSpec.pre enc Tryd.prog Tryd.f4 [] false w args ∧ laidMetH Tryd.prog [("loop.example/latimer/impl.forms", Rows.laid_loop_example_latimer_impl_forms)] w) ∧ sizedMet enc Tryd.prog Tryd.f4 (OpenSpec.ofChange Rows.fnBlkSizeSpec) false w args) (Rows.fnBlkSizeSpec.post enc Tryd.prog Tryd.f4 false true false false) := by
  refine returnsInHanded_of_change_and (C := Tryd.checked) (X := fun w _ => laidMetH Tryd.prog [("loop.example/latimer/impl.forms", Rows.laid_loop_example_latimer_impl_forms)] w) (fun _ _ _ hh h => h.of_heap hh) prog_own started (by kernel_rfl) Tryd.func4
    (ChangeSpec.witness_shaped (enc := enc) (C := Tryd.checked) (os := os) (X := fun w _ => laidMetH Tryd.prog [("loop.example/latimer/impl.forms", Rows.laid_loop_example_latimer_impl_forms)] w) false (World.doorLaid Tryd.prog 46 os) #[.slice none 0 0] 8 rfl (World.shaped_of_RefB (by kernel_rfl) (by kernel_rfl)) (by kernel_rfl) (by kernel_rfl) (by kernel_rfl) (door_met os _)) ?_
  intro W base args ds gs before hval0 hW _ _ hL _
  have hval : ∀ (j : Nat) t v, Tryd.f4.params[j]? = some t → args[j]? = some v → Value.okWide Tryd.prog W .any base t v := hval0
  have hlt := fun p (hp : p ∈ before) => hW.lt p hp
  have hW' := hW
  obtain ⟨p, q, hA0, hV0, rfl, hfz, hnd⟩ := hW
  have hV : DataW.TrodVars enc Tryd.prog W (fun _ => true) ["loop.example/latimer/impl.forms"] gs q := hV0
  obtain ⟨gg, tt, cc, ff, dd, pp, rfl, -, -, -, -, -⟩ := trodVars_one hV
  have hA : DataW.TrodAll enc Tryd.prog W 0 (fun _ => true) true Tryd.f4.params.toList args.toList ds p := hA0
  rw [Tryd.params4] at hA hval
  obtain ⟨v0, vs0, d0, ds0, p0, q0, hargs, rfl, rfl, h0, r0⟩ := trodAll_cons hA
  obtain ⟨rfl, rfl, rfl⟩ := trodAll_nil r0
  obtain rfl : args = #[v0] := by cases args; simp_all
  have g0 := h0
  obtain ⟨fu0, hf0⟩ := g0
  obtain ⟨code, ρ0⟩ := rd_ListUInt8.2.2 _ _ _ _ _ _ _ _ hf0
  obtain ⟨A0, l0, c0, rfl⟩ := okWide_slice Tryd.underlying22 (hval 0 22 v0 rfl rfl)
  obtain ⟨x0, e0, s0⟩ := ρ0
  obtain rfl := List.head_eq_of_cons_eq e0
  clear hA0 hval0 hV0
  refine (lawBlkSize_any code _ _ s0 _ (forms_of_laid hL)).mono fun e W1 ⟨he, hx⟩ => ?_
  subst he
  exact ⟨_, rfl, post_of_ext (pa := p0 ++ ([])) (pv := q) hW' (fun _ _ _ => (trodAll_cons_mk (shut_bool Tryd.underlying4 _) trodAll_mk0)) (fun sp hsp => (trodAll_cons_mk (WideElems.Trod_stays prog_laidOut (by kernel_rfl) (by decide +kernel) h0 (fun x hx0 => hx.below.same (hlt x (by simp [hx0]))) (fun x hx0 => hsp x (by simp [hx0]))) trodAll_mk0)) (fun sp hsp => vars_stay hV hx (fun x hx0 => hlt x (by simp [hx0])) sp (fun x hx0 => hsp x (by simp [hx0]))) rfl
    hx (ok_one (by kernel_rfl) rfl (okWide_bool_mk Tryd.underlying4 _))⟩

theorem fnBlkSize_row : Rows.FnBlkSizeSaid :=
  OpenClaim.holds_of_wide 4 Tryd.f4 rfl rfl rfl rfl rfl rfl rfl ⟨rfl, rfl, rfl, rfl, rfl⟩ rfl rfl rfl rfl rfl (by kernel_rfl) Tryd.func4 (by kernel_rfl)
    (of_decide_eq_true (by kernel_rfl)) (by unfold Func.isWrapper; first | (rw [if_pos (by decide +kernel)]; kernel_rfl) | (rw [if_neg (by decide +kernel)]; exact ⟨rfl, rfl⟩))
    (fun os started H enc _ => fnBlkSize_lifted os started H enc)

/-- The statement: the tied card. -/
theorem fnBlkSize_holds : Rows.FnBlkSizeCardSaid :=
  Claim7.holds_tied_plain_at .later [] [.widerDeep] true (true, "e9c27eb4a770361095902e0ff07b7d1811f55cd5bb4da066faa199bb90a27930") false fnBlkSize_row (fun _ h => by cases h) (by kernel_rfl) (fun _ h => by cases h) fnBlkSize_row_tie rfl ⟨rfl, rfl⟩ (by kernel_rfl) rfl
    (fun f fn hf hfn => by
      obtain rfl : f = 4 := Option.some.inj ((show Tryd.prog.funcNamed "loop.example/latimer/laws.FnBlkSize" = some 4 by kernel_rfl).symm.trans hf) |>.symm
      obtain rfl : fn = Tryd.f4 := (Option.some.inj (Tryd.func4.symm.trans hfn)).symm
      exact ⟨by kernel_rfl, fun j t ht => by
        rw [Tryd.params4] at ht
        have hm : t ∈ [22] := by simpa using Array.mem_of_getElem? ht
        have hall : ([22].all fun u => !Tryd.prog.wantsStandIn u) = true := by kernel_rfl
        exact (show Tryd.prog.wantsStandIn t = false by simpa using List.all_eq_true.1 hall t hm)⟩)
    (by kernel_rfl)

end Go.Proofs.YtokibcicoomceaaDoor
