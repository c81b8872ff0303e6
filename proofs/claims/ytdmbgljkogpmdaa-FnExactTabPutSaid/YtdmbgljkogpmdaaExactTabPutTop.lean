/-
  The statement FnExactTabPut: for every input the law returns true, and each argument reads afterwards as it read before. No condition.
-/
import Derived.Test.YtdmbgljkogpmdaaExactTabPutLaw
import Derived.Test.YtdmbgljkogpmdaaRd
import Derived.ProofKit
import Derived.OpenShut
namespace Go.Proofs.Ytdmbgljkogpmdaa
open Go.RowKit
open Go.ChangeShapes Go.WideShapes Go.ChangeAt
set_option linter.unusedVariables false
set_option linter.unusedSimpArgs false
set_option maxRecDepth 100000

theorem fnExactTabPut_own : ownKnob Try.prog.godebug = none := by kernel_rfl
theorem fnExactTabPut_laidOut : laidOutB Try.prog = true := by kernel_rfl

set_option maxRecDepth 100000 in
theorem fnExactTabPut_lifted (os : Os) (started : os.Started) (H : Type) (enc : TypeId × Value → H) :
    ReturnsInHanded {} Try.checked os 4 .any (Rows.fnExactTabPutSpec.pre6 enc Try.prog Try.f4 Rows.fnExactTabPutRow.domain false) (Rows.fnExactTabPutSpec.post enc Try.prog Try.f4 false true false false) := by
  refine returnsInHanded_of_change (C := Try.checked) fnExactTabPut_own started (by kernel_rfl) Try.func4
    (ChangeSpec.witness6 (enc := enc) (C := Try.checked) false ⟨#[], #[.agg #[.slice none 0 0], .agg #[.int .i64 0, .int .i64 0, .slice none 0 0, .slice none 0 0]], []⟩ 8 (by kernel_rfl) (by kernel_rfl) (by kernel_rfl) (by kernel_rfl)) ?_
  intro W base args ds gs before hval0 hW hcnd _
  have hval : ∀ (j : Nat) t v, Try.f4.params[j]? = some t → args[j]? = some v → Value.okWide Try.prog W .any base t v := hval0
  have hlt := fun p (hp : p ∈ before) => hW.lt p hp
  have hW' := hW
  obtain ⟨p, q, hA0, hV, rfl, hfz, hnd⟩ := hW
  have hA : DataW.TrodAll enc Try.prog W 0 (fun _ => true) true Try.f4.params.toList args.toList ds p := hA0
  rw [Try.params4] at hA hval
  obtain ⟨v0, vs0, d0, ds0, p0, q0, hargs, rfl, rfl, h0, r0⟩ := trodAll_cons hA
  obtain ⟨v1, vs1, d1, ds1, p1, q1, rfl, rfl, rfl, h1, r1⟩ := trodAll_cons r0
  obtain ⟨rfl, rfl, rfl⟩ := trodAll_nil r1
  obtain rfl : args = #[v0, v1] := by cases args; simp_all
  obtain ⟨rfl, rfl⟩ := trodVars_none hV
  have g0 := h0
  obtain ⟨fu0, hf0⟩ := g0
  obtain ⟨t, ρ0⟩ := rd_TabTab.2.2 _ _ _ _ _ _ _ _ hf0
  obtain ⟨cs0, rfl, _⟩ := okWide_struct Try.underlying35 (hval 0 35 v0 rfl rfl)
  obtain ⟨x0_0, e0, k0, s0_0⟩ := ρ0
  obtain rfl : cs0 = #[x0_0] := Array.toList_inj.1 e0
  have g1 := h1
  obtain ⟨fu1, hf1⟩ := g1
  obtain ⟨a, ρ1⟩ := rd_TabAtom.2.2 _ _ _ _ _ _ _ _ hf1
  obtain ⟨cs1, rfl, _⟩ := okWide_struct Try.underlying40 (hval 1 40 v1 rfl rfl)
  obtain ⟨x1_0, x1_1, e1, k1, s1_0, s1_1⟩ := ρ1
  obtain rfl : cs1 = #[.int .i64 a.kind, .int .i64 a.k, x1_0, x1_1] := Array.toList_inj.1 e1
  clear hA0 hval0
  refine (lawExactTabPut_any t a _ _ _ _ s0_0 s1_0 s1_1 k0 k1).mono fun e W1 ⟨he, hx⟩ => ?_
  subst he
  exact ⟨_, rfl, post_of_ext (pa := p0 ++ (p1 ++ ([]))) (pv := []) hW' (fun _ _ _ => (trodAll_cons_mk (shut_bool Try.underlying4 _) trodAll_mk0)) (fun sp hsp => (trodAll_cons_mk (WideElems.Trod_stays fnExactTabPut_laidOut (by kernel_rfl) (by decide +kernel) h0 (fun x hx0 => hx.below.same (hlt x (by simp [hx0]))) (fun x hx0 => hsp x (by simp [hx0]))) (trodAll_cons_mk (WideElems.Trod_stays fnExactTabPut_laidOut (by kernel_rfl) (by decide +kernel) h1 (fun x hx0 => hx.below.same (hlt x (by simp [hx0]))) (fun x hx0 => hsp x (by simp [hx0]))) trodAll_mk0))) (fun _ _ => rfl) rfl
    hx (ok_one (by kernel_rfl) rfl (okWide_bool_mk Try.underlying4 _))⟩

/-- The statement. -/
theorem fnExactTabPut_holds : Rows.FnExactTabPutSaid :=
  OpenClaim.holds_of_wide 4 Try.f4 rfl rfl rfl rfl rfl rfl rfl ⟨rfl, rfl, rfl, rfl, rfl⟩ rfl rfl rfl rfl rfl (by kernel_rfl) Try.func4 (by kernel_rfl)
    (of_decide_eq_true (by kernel_rfl)) (by unfold Func.isWrapper; first | (rw [if_pos (by decide +kernel)]; kernel_rfl) | (rw [if_neg (by decide +kernel)]; exact ⟨rfl, rfl⟩))
    (fun os started H enc _ => fnExactTabPut_lifted os started H enc)

end Go.Proofs.Ytdmbgljkogpmdaa
