/-
  The statement FnExactCacDrop: for every input the law returns true, and each argument reads afterwards as it read before. No condition.
-/
import Derived.Test.YtjemadbhpbbhlaaExactCacDropLaw
import Derived.Test.YtjemadbhpbbhlaaRd
import Derived.ProofKit
import Derived.OpenShut
namespace Go.Proofs.Ytjemadbhpbbhlaa
open Go.RowKit
open Go.ChangeShapes Go.WideShapes Go.ChangeAt
set_option linter.unusedVariables false
set_option linter.unusedSimpArgs false
set_option maxRecDepth 100000

theorem fnExactCacDrop_own : ownKnob Try.prog.godebug = none := by kernel_rfl
theorem fnExactCacDrop_laidOut : laidOutB Try.prog = true := by kernel_rfl

set_option maxRecDepth 100000 in
theorem fnExactCacDrop_lifted (os : Os) (started : os.Started) (H : Type) (enc : TypeId × Value → H) :
    ReturnsInHanded {} Try.checked os 12 .any (Rows.fnExactCacDropSpec.pre6 enc Try.prog Try.f12 Rows.fnExactCacDropRow.domain false) (Rows.fnExactCacDropSpec.post enc Try.prog Try.f12 false true false false) := by
  refine returnsInHanded_of_change (C := Try.checked) fnExactCacDrop_own started (by kernel_rfl) Try.func12
    (ChangeSpec.witness6 (enc := enc) (C := Try.checked) false ⟨#[], #[.slice none 0 0, .slice none 0 0], []⟩ 8 (by kernel_rfl) (by kernel_rfl) (by kernel_rfl) (by kernel_rfl)) ?_
  intro W base args ds gs before hval0 hW hcnd _
  have hval : ∀ (j : Nat) t v, Try.f12.params[j]? = some t → args[j]? = some v → Value.okWide Try.prog W .any base t v := hval0
  have hlt := fun p (hp : p ∈ before) => hW.lt p hp
  have hW' := hW
  obtain ⟨p, q, hA0, hV, rfl, hfz, hnd⟩ := hW
  have hA : DataW.TrodAll enc Try.prog W 0 (fun _ => true) true Try.f12.params.toList args.toList ds p := hA0
  rw [Try.params12] at hA hval
  obtain ⟨v0, vs0, d0, ds0, p0, q0, hargs, rfl, rfl, h0, r0⟩ := trodAll_cons hA
  obtain ⟨v1, vs1, d1, ds1, p1, q1, rfl, rfl, rfl, h1, r1⟩ := trodAll_cons r0
  obtain ⟨rfl, rfl, rfl⟩ := trodAll_nil r1
  obtain rfl : args = #[v0, v1] := by cases args; simp_all
  obtain ⟨rfl, rfl⟩ := trodVars_none hV
  have g0 := h0
  obtain ⟨fu0, hf0⟩ := g0
  obtain ⟨l, ρ0⟩ := rd_ListCacEntry.2.2 _ _ _ _ _ _ _ _ hf0
  obtain ⟨A0, l0, c0, rfl⟩ := okWide_slice Try.underlying62 (hval 0 62 v0 rfl rfl)
  obtain ⟨x0, e0, s0⟩ := ρ0
  obtain rfl := List.head_eq_of_cons_eq e0
  have g1 := h1
  obtain ⟨fu1, hf1⟩ := g1
  obtain ⟨mem, ρ1⟩ := rd_ListInt.2.2 _ _ _ _ _ _ _ _ hf1
  obtain ⟨A1, l1, c1, rfl⟩ := okWide_slice Try.underlying63 (hval 1 63 v1 rfl rfl)
  obtain ⟨x1, e1, s1⟩ := ρ1
  obtain rfl := List.head_eq_of_cons_eq e1
  clear hA0 hval0
  refine (lawExactCacDrop_any l mem _ _ _ s0 s1 ).mono fun e W1 ⟨he, hx⟩ => ?_
  subst he
  exact ⟨_, rfl, post_of_ext (pa := p0 ++ (p1 ++ ([]))) (pv := []) hW' (fun _ _ _ => (trodAll_cons_mk (shut_bool Try.underlying4 _) trodAll_mk0)) (fun sp hsp => (trodAll_cons_mk (WideElems.Trod_stays fnExactCacDrop_laidOut (by kernel_rfl) (by decide +kernel) h0 (fun x hx0 => hx.below.same (hlt x (by simp [hx0]))) (fun x hx0 => hsp x (by simp [hx0]))) (trodAll_cons_mk (WideElems.Trod_stays fnExactCacDrop_laidOut (by kernel_rfl) (by decide +kernel) h1 (fun x hx0 => hx.below.same (hlt x (by simp [hx0]))) (fun x hx0 => hsp x (by simp [hx0]))) trodAll_mk0))) (fun _ _ => rfl) rfl
    hx (ok_one (by kernel_rfl) rfl (okWide_bool_mk Try.underlying4 _))⟩

/-- The statement. -/
theorem fnExactCacDrop_holds : Rows.FnExactCacDropSaid :=
  OpenClaim.holds_of_wide 12 Try.f12 rfl rfl rfl rfl rfl rfl rfl ⟨rfl, rfl, rfl, rfl, rfl⟩ rfl rfl rfl rfl rfl (by kernel_rfl) Try.func12 (by kernel_rfl)
    (of_decide_eq_true (by kernel_rfl)) (by unfold Func.isWrapper; first | (rw [if_pos (by decide +kernel)]; kernel_rfl) | (rw [if_neg (by decide +kernel)]; exact ⟨rfl, rfl⟩))
    (fun os started H enc _ => fnExactCacDrop_lifted os started H enc)

end Go.Proofs.Ytjemadbhpbbhlaa
