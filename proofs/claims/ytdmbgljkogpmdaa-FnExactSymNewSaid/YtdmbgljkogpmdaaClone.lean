/-
  The program and the reference copy slices into fresh memory.
-/
import Derived.Test.YtdmbgljkogpmdaaAppLib
import Derived.Test.YtdmbgljkogpmdaaTo
namespace Go.Proofs.Ytdmbgljkogpmdaa
open Go.RowKit

set_option linter.unusedVariables false
set_option linter.unusedSimpArgs false
set_option maxRecDepth 100000

set_option maxHeartbeats 1000000 in
theorem cloneInts_any (l : List Int) (v : Value) (w : World) (h : Sl w (Old w) v l) (hn : l.length ≤ 4194304) :
    Calls Try.prog 99 #[v] w fun e w' => ∃ r F, e = .returned r ∧ OwnSl w' r l F ∧ Fr w w' F ∧ Ext w w' := by
  obtain ⟨A, c, rfl, hl, hm⟩ := h.form
  obtain ⟨i0, hi, hz0, hz1, hz2⟩ := info_parts infInt
  have HI := hide hi
  have HZ0 := hide hz0
  have HZ1 := hide hz1
  have HZ2 := hide hz2
  clear hi hz0 hz1 hz2
  go_enter Try.func99, Try.ntmps99
  go_wp2_with (at_builtin; refine wpList_append_flat (w0 := w) (α := Int) rfl _ _ 102 rfl i0 _ 8 Try.underlying102 HI.out HZ0.out HZ1.out HZ2.out rfl (App.nil w 3) rfl _ l (Old w) rfl h (by simp [maxLen]; omega) (by simp; omega) ?_; intro v' w' Fs' xs' hA; obtain ⟨F, hO, hF⟩ := hA.done; have hE := hA.ext; clear hA)
  go_ret
  exact ⟨_, F, rfl, hO, hF, hE⟩

end Go.Proofs.Ytdmbgljkogpmdaa
