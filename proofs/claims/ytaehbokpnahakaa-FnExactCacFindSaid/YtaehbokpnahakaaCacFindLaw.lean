/-
  The law FnExactCacFind returns true for every input: the program's CacFind returns what the reference's returns.
-/
import Derived.Test.YtaehbokpnahakaaCacFind
import Derived.Test.YtaehbokpnahakaaTo
import Derived.Test.YtaehbokpnahakaaEq
import Derived.Test.YtaehbokpnahakaaSz
namespace Go.Proofs.Ytaehbokpnahakaa
open Go.RowKit

set_option maxHeartbeats 1000000 in
theorem lawCacFind_any (l : List CacEntry) (v : Value) (pc : Int) (w : World) (h : Sl w (Old w) v l) :
    Calls Try.prog 3 #[v, .int .i64 pc] w fun e w' => e = .returned (.bool true) ∧ Ext w w' := by
  obtain ⟨A, c, rfl, -, -⟩ := h.form
  go_enter Try.func3, Try.ntmps3
  go_wp2_with fail
  refine (sz_ListCacEntry l _ 1048576 _ h (by omega) (by omega)).mono ?_
  rintro e w1 ⟨r1, rfl, hr, hx1⟩
  rcases hr with ⟨hq, hn⟩ | ⟨hq, hn⟩
  rotate_left
  · have hz : r1 < 0 := by omega
    clear hq
    go_wp2
    go_ret
    exact ⟨rfl, hx1⟩
  have hz : 0 ≤ r1 := by omega
  clear hq
  go_wp2_with fail
  refine (to_ListCacEntry l _ _ (h.ext hx1) (by omega)).mono ?_
  rintro e w2 ⟨r2, F2, rfl, ho2, hf2, hx2⟩
  have he2 := hx1.trans hx2
  go_wp2_with fail
  refine (specCacFind_any l _ pc _ (ho2.old hf2)).mono ?_
  rintro e w3 ⟨rfl, hx3⟩
  have he3 := he2.trans hx3
  go_wp2_with fail
  refine (to_ListCacEntry l _ _ (h.ext he3) (by omega)).mono ?_
  rintro e w4 ⟨r4, F4, rfl, ho4, hf4, hx4⟩
  have he4 := he3.trans hx4
  go_wp2_with fail
  refine (implCacFind_any l _ pc _ (ho4.old hf4)).mono ?_
  rintro e w5 ⟨rfl, hx5⟩
  have he5 := he4.trans hx5
  go_wp2_with fail
  refine (to_ListCacEntry l _ _ (h.ext he5) (by omega)).mono ?_
  rintro e w6 ⟨r6, F6, rfl, ho6, hf6, hx6⟩
  have he6 := he5.trans hx6
  go_wp2_with fail
  refine (eq_ListCacEntry l l _ _ _ ((ho4.old hf4).ext (hx5.trans hx6)) (ho6.old hf6)).mono ?_
  rintro e w7 ⟨rfl, hx7⟩
  have he7 := he6.trans hx7
  have hd : decide (l = l) = true := by simp
  go_wp2
  go_ret
  exact ⟨rfl, he7⟩

end Go.Proofs.Ytaehbokpnahakaa
