/-
 SymSameTop
-/
import Derived.Test.YtmbclopkopfngaaGreatJSymSameLaw
namespace Go.Proofs.YtmbclopkopfngaaGreat
open Go.RowKit
open Go.ChangeShapes Go.WideShapes Go.ChangeAt
set_option linter.unusedVariables false
set_option linter.unusedSimpArgs false
set_option maxRecDepth 100000
theorem bq3 : ownKnob Tryz.prog.godebug = none := by kernel_rfl
theorem aS6 : laidOutB Tryz.prog = true := by kernel_rfl
set_option maxRecDepth 100000 in
theorem aW3 (os : Os) (started : os.Started) (H : Type) (enc : TypeId × Value → H) :
  ReturnsInHanded {} Tryz.checked os 3 .any (Rows.fnSymSameSpec.pre6 enc Tryz.prog Tryz.f3 Rows.fnSymSameRow.domain false) (Rows.fnSymSameSpec.post enc Tryz.prog Tryz.f3 false true false false) := by
 refine returnsInHanded_of_change (C := Tryz.checked) bq3 started (by kernel_rfl) Tryz.func3
  (ChangeSpec.witness6 (enc := enc) (C := Tryz.checked) false ⟨#[], #[.slice none 0 0], []⟩ 8 (by kernel_rfl) (by kernel_rfl) (by kernel_rfl) (by kernel_rfl)) ?_
 intro W base args ds gs before hval0 hW hcnd _;have hval : ∀ (j : Nat) t v, Tryz.f3.params[j]? = some t → args[j]? = some v → Value.okWide Tryz.prog W .any base t v := hval0;have hlt := fun p (hp : p ∈ before) => hW.lt p hp;have hW' := hW;obtain ⟨p, q, hA0, hV, rfl, hfz, hnd⟩ := hW;have hA : DataW.TrodAll enc Tryz.prog W 0 (fun _ => true) true Tryz.f3.params.toList args.toList ds p := hA0;rw [Tryz.params3] at hA hval;obtain ⟨v0, vs0, d0, ds0, p0, q0, hargs, rfl, rfl, h0, r0⟩ := trodAll_cons hA;obtain ⟨rfl, rfl, rfl⟩ := trodAll_nil r0;obtain rfl : args = #[v0] := by cases args; simp_all
 obtain ⟨rfl, rfl⟩ := trodVars_none hV;have g0 := h0;obtain ⟨fu0, hf0⟩ := g0;obtain ⟨code, ρ0⟩ := bv5.2.2 _ _ _ _ _ _ _ _ hf0;obtain ⟨A0, l0, c0, rfl⟩ := okWide_slice Tryz.underlying22 (hval 0 22 v0 rfl rfl);obtain ⟨x0, e0, s0⟩ := ρ0;obtain rfl := List.head_eq_of_cons_eq e0;clear hA0 hval0;refine (bn6 code _ _ s0).mono fun e W1 ⟨he, hx⟩ => ?_;subst he
 exact ⟨_, rfl, bD3 (pa := p0 ++ ([])) (pv := []) hW' (fun _ _ _ => (trodAll_cons_mk (shut_bool Tryz.underlying4 _) trodAll_mk0)) (fun sp hsp => (trodAll_cons_mk (WideElems.Trod_stays aS6 (by kernel_rfl) (by decide +kernel) h0 (fun x hx0 => hx.below.same (hlt x (by simp [hx0]))) (fun x hx0 => hsp x (by simp [hx0]))) trodAll_mk0)) (fun _ _ => rfl) rfl
  hx (ok_one (by kernel_rfl) rfl (okWide_bool_mk Tryz.underlying4 _))⟩
theorem fnSymSame_holds : Rows.FnSymSameSaid :=
 OpenClaim.holds_of_wide 3 Tryz.f3 rfl rfl rfl rfl rfl rfl rfl ⟨rfl, rfl, rfl, rfl, rfl⟩ rfl rfl rfl rfl rfl (by kernel_rfl) Tryz.func3 (by kernel_rfl)
  (of_decide_eq_true (by kernel_rfl)) (by unfold Func.isWrapper; first | (rw [if_pos (by decide +kernel)]; kernel_rfl) | (rw [if_neg (by decide +kernel)]; exact ⟨rfl, rfl⟩))
  (fun os started H enc _ => aW3 os started H enc)
end Go.Proofs.YtmbclopkopfngaaGreat
