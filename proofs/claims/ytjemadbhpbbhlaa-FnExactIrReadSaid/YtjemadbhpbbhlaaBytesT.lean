/-
  Two bytes of a number: the reference.
-/
import Derived.Test.YtjemadbhpbbhlaaBytesI
namespace Go.Proofs.Ytjemadbhpbbhlaa
open Go.RowKit

set_option linter.unusedVariables false
set_option linter.unusedSimpArgs false
set_option maxRecDepth 100000

theorem b8_mod (n : Int) : b8 (n % 256) = b8 n := by unfold b8; rw [Int.emod_emod_of_dvd _ (Int.dvd_refl 256)]
theorem b8_rep2 {w : World} {S : Nat → Prop} (n : Int) : Rep.rep w S [Value.int .u8 (n % 256 % 256)] (b8 n) := by
  have := b8_rep (w := w) (S := S) (n % 256)
  rwa [b8_mod] at this

set_option maxHeartbeats 4000000 in
theorem l11Two_any (n : Int) (v : Value) (w0 w : World) (l : List UInt8) (Fs : List (List Nat)) (xs : List Value) (hA : App w0 w 5 v l Fs xs) (h0 : 0 ≤ n) (h1 : n ≤ 4294967296) (hl : l.length ≤ 1000) :
    Calls Try.prog 82 #[v, .int .i64 n] w fun e w' => ∃ v', e = .returned v' ∧ (∃ Fs' xs', App w0 w' 5 v' (l ++ [b8 (n / 256), b8 n]) Fs' xs') ∧ Near v.ownBlock w w' ∧ Moved v v' w := by
  obtain ⟨i0, hi, hz0, hz1, hz2⟩ := info_parts infbUInt8
  have HI0 := hide hi
  have HZ00 := hide hz0
  have HZ10 := hide hz1
  have HZ20 := hide hz2
  clear hi hz0 hz1 hz2
  go_enter Try.func82, Try.ntmps82
  have he0 : Ext w w := Ext.refl _
  have hs0 : w.heap.size ≤ w.heap.size := Nat.le_refl _
  have hq0 := hide (rfl : w.heap.size = w.heap.size)
  go_wp2_with (at_builtin; go_must (refine wpList_append_flat2 (α := UInt8) (w0 := w0) rfl _ _ 26 rfl i0 _ 1 Try.underlying26 HI0.out HZ00.out HZ10.out HZ20.out rfl (hA.call ((Ext.refl _).alloc _)) rfl _ [b8 (n / 256), b8 n] _ rfl ((FRow.built _ 5 #[.int .u8 (n / 256 % 256), .int .u8 (n % 256)] [b8 (n / 256), b8 n] rfl rfl (by intro i a u ha hu; (rcases i with _ | _ | i) <;> simp at ha hu <;> (try subst ha) <;> (try subst hu) <;> first | (exact b8_rep _) | (exact b8_rep2 _) | (exfalso; simp_all)) (by first | rfl | simp)).sl rfl (Nat.le_refl _) (by simp [maxLen])) (by show _ + 2 ≤ _; unfold maxLen; omega) (by show (_ + 2) * 1 ≤ _; omega) ?_); intro v' w9 Fs' xs' hA9 hg9 hb9)
  go_ret
  exact ⟨_, rfl, ⟨Fs', xs', hA9⟩, Near.trans (Near.ext (Near.refl _ _) ((Ext.refl _).alloc _)) (Near.grown hg9), hb9.imp id (fun h => ⟨_, h, by simp⟩)⟩

end Go.Proofs.Ytjemadbhpbbhlaa
