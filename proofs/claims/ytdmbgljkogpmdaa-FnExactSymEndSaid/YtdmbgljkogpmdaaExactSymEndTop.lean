/-
  The statement FnExactSymEnd: for every input the law returns true, and each argument reads afterwards as it read before. No condition.
-/
import Derived.Test.YtdmbgljkogpmdaaExactSymEndLaw
import Derived.Test.YtdmbgljkogpmdaaRd
import Derived.ProofKit
import Derived.OpenShut
namespace Go.Proofs.Ytdmbgljkogpmdaa
open Go.RowKit
open Go.ChangeShapes Go.WideShapes Go.ChangeAt
set_option linter.unusedVariables false
set_option linter.unusedSimpArgs false
set_option maxRecDepth 100000

theorem fnExactSymEnd_own : ownKnob Try.prog.godebug = none := by kernel_rfl
theorem fnExactSymEnd_laidOut : laidOutB Try.prog = true := by kernel_rfl

set_option maxRecDepth 100000 in
theorem fnExactSymEnd_lifted (os : Os) (started : os.Started) (H : Type) (enc : TypeId × Value → H) :
    ReturnsInHanded {} Try.checked os 5 .any (Rows.fnExactSymEndSpec.pre6 enc Try.prog Try.f5 Rows.fnExactSymEndRow.domain false) (Rows.fnExactSymEndSpec.post enc Try.prog Try.f5 false true false false) := by
  refine returnsInHanded_of_change (C := Try.checked) fnExactSymEnd_own started (by kernel_rfl) Try.func5
    (ChangeSpec.witness6 (enc := enc) (C := Try.checked) false ⟨#[], #[.agg #[.slice none 0 0, .slice none 0 0, .int .i64 0, .slice none 0 0, .slice none 0 0, .int .i64 0], .int .i64 0], []⟩ 8 (by kernel_rfl) (by kernel_rfl) (by kernel_rfl) (by kernel_rfl)) ?_
  intro W base args ds gs before hval0 hW hcnd _
  have hval : ∀ (j : Nat) t v, Try.f5.params[j]? = some t → args[j]? = some v → Value.okWide Try.prog W .any base t v := hval0
  have hlt := fun p (hp : p ∈ before) => hW.lt p hp
  have hW' := hW
  obtain ⟨p, q, hA0, hV, rfl, hfz, hnd⟩ := hW
  have hA : DataW.TrodAll enc Try.prog W 0 (fun _ => true) true Try.f5.params.toList args.toList ds p := hA0
  rw [Try.params5] at hA hval
  obtain ⟨v0, vs0, d0, ds0, p0, q0, hargs, rfl, rfl, h0, r0⟩ := trodAll_cons hA
  obtain ⟨v1, vs1, d1, ds1, p1, q1, rfl, rfl, rfl, h1, r1⟩ := trodAll_cons r0
  obtain ⟨rfl, rfl, rfl⟩ := trodAll_nil r1
  obtain rfl : args = #[v0, v1] := by cases args; simp_all
  obtain ⟨rfl, rfl⟩ := trodVars_none hV
  have g0 := h0
  obtain ⟨fu0, hf0⟩ := g0
  obtain ⟨u, ρ0⟩ := rd_SymSym.2.2 _ _ _ _ _ _ _ _ hf0
  obtain ⟨cs0, rfl, _⟩ := okWide_struct Try.underlying58 (hval 0 58 v0 rfl rfl)
  obtain ⟨x0_0, x0_1, x0_2, x0_3, e0, k0, s0_0, s0_1, s0_2, s0_3⟩ := ρ0
  obtain rfl : cs0 = #[x0_0, x0_1, .int .i64 u.fin, x0_2, x0_3, .int .i64 u.k] := Array.toList_inj.1 e0
  have g1 := h1
  obtain ⟨fu1, hf1⟩ := g1
  obtain ⟨behind, ρ1⟩ := rd_Int.2.2 _ _ _ _ _ _ _ _ hf1
  obtain ⟨n1, rfl, _, _, wf1⟩ := open_int Try.underlying3 (hval 1 3 v1 rfl rfl) h1
  obtain ⟨e1, k1⟩ := ρ1
  obtain rfl : behind = n1 := by have := List.head_eq_of_cons_eq e1; injection this with _ e; exact e.symm
  clear hA0 hval0
  refine (lawExactSymEnd_any u behind _ _ _ _ _ s0_0 s0_1 s0_2 s0_3 k0).mono fun e W1 ⟨he, hx⟩ => ?_
  subst he
  exact ⟨_, rfl, post_of_ext (pa := p0 ++ (p1 ++ ([]))) (pv := []) hW' (fun _ _ _ => (trodAll_cons_mk (shut_bool Try.underlying4 _) trodAll_mk0)) (fun sp hsp => (trodAll_cons_mk (WideElems.Trod_stays fnExactSymEnd_laidOut (by kernel_rfl) (by decide +kernel) h0 (fun x hx0 => hx.below.same (hlt x (by simp [hx0]))) (fun x hx0 => hsp x (by simp [hx0]))) (trodAll_cons_mk (WideElems.Trod_stays fnExactSymEnd_laidOut (by kernel_rfl) (by decide +kernel) h1 (fun x hx0 => hx.below.same (hlt x (by simp [hx0]))) (fun x hx0 => hsp x (by simp [hx0]))) trodAll_mk0))) (fun _ _ => rfl) rfl
    hx (ok_one (by kernel_rfl) rfl (okWide_bool_mk Try.underlying4 _))⟩

/-- The statement. -/
theorem fnExactSymEnd_holds : Rows.FnExactSymEndSaid :=
  OpenClaim.holds_of_wide 5 Try.f5 rfl rfl rfl rfl rfl rfl rfl ⟨rfl, rfl, rfl, rfl, rfl⟩ rfl rfl rfl rfl rfl (by kernel_rfl) Try.func5 (by kernel_rfl)
    (of_decide_eq_true (by kernel_rfl)) (by unfold Func.isWrapper; first | (rw [if_pos (by decide +kernel)]; kernel_rfl) | (rw [if_neg (by decide +kernel)]; exact ⟨rfl, rfl⟩))
    (fun os started H enc _ => fnExactSymEnd_lifted os started H enc)

end Go.Proofs.Ytdmbgljkogpmdaa
