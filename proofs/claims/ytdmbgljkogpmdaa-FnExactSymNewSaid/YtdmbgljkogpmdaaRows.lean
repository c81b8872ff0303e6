/-
  No cell of these rows narrows 'for every input' (looked for: loops, veiled, ifaces, maps, wideKeys, modest, calm, conditions, laid).
  DERIVED. THE GIVEN ROWS OF THIS SEAT. 3 by the template 'for every input the law returns true; each argument reads behind the call as it read before'; 0 by the template 'total and deterministic' (their statements: YtdmbgljkogpmdaaTotals.lean).
  GIVEN WITH THE SEED: the statements are not yours to turn. If you find one false, say at which input.
  Laid BY PROGRAM, IN A SANDBOX (cutbox-rows.mjs): the forced cells as the released guide's own fill.sh prints them over the translation e6e0766fd0a4e219… (all of the seat's roots in one cut). By AI agents, Wed Nov 11 2026. No macro, syntax, notation, axiom, sorry.
-/
import Derived.Test.YtdmbgljkogpmdaaChecked
import GoSem.Claim
import GoSem.ClaimJoined
import GoSem.ClaimMapViews
import Derived.JoinedTies
import Derived.KernelRfl
namespace Go.Proofs.Ytdmbgljkogpmdaa
/- THE CELL 'sum', in the pinned program and in every row, IS THE sha256 OF THE DUMP (.gsa) THAT YtdmbgljkogpmdaaProg.lean LOADS. Nothing in Lean hashes anything: it is a label: what it is worth is what the hold of that sum in a sandbox is worth. -/
noncomputable def Try.pinned : Pinned := { name := "ytdmbgljkogpmdaa", sum := "e6e0766fd0a4e219ad061a87f97fe6c65de1bbd3fe7da4d829b1a3d63aeb08f9", checked := Try.checked }
namespace Rows
def none {H : Type} : Left H := { results := [], args := [] }

/-- 'laws.FnExactSymNew': WHATEVER THE INPUT: true; the input reads as it did. -/
def fnExactSymNewSpec : ChangeSpec := { name := "fnExactSymNew", fn := fun _ => fun
  | [] => { results := [.lit (.bool true)], args := [] }
  | _ => none }
def fnExactSymNewRow : OpenClaim := { program := "ytdmbgljkogpmdaa", sum := "e6e0766fd0a4e219ad061a87f97fe6c65de1bbd3fe7da4d829b1a3d63aeb08f9", func := "loop.example/latimer/laws.FnExactSymNew", spec := "fnExactSymNew", unfollowed := true, recurses := true, apart := false }
def FnExactSymNewSaid : Prop := fnExactSymNewRow.holds Try.pinned (OpenSpec.ofChange fnExactSymNewSpec)

/-- ITS FALSE NEIGHBOUR: 'it returns false'. Refute it at one input. -/
def fnExactSymNewWrong : ChangeSpec := { name := "fnExactSymNew", fn := fun _ => fun
  | [] => { results := [.lit (.bool false)], args := [] }
  | _ => none }
def FnExactSymNewWrongFalsely : Prop := fnExactSymNewRow.holds Try.pinned (OpenSpec.ofChange fnExactSymNewWrong)

/-- 'laws.FnExactTabPut': WHATEVER THE INPUT: true; the input reads as it did. -/
def fnExactTabPutSpec : ChangeSpec := { name := "fnExactTabPut", fn := fun _ => fun
  | [d1, d2] => { results := [.lit (.bool true)], args := [d1, d2] }
  | _ => none }
def fnExactTabPutRow : OpenClaim := { program := "ytdmbgljkogpmdaa", sum := "e6e0766fd0a4e219ad061a87f97fe6c65de1bbd3fe7da4d829b1a3d63aeb08f9", func := "loop.example/latimer/laws.FnExactTabPut", spec := "fnExactTabPut", unfollowed := true, recurses := true, apart := false }
def FnExactTabPutSaid : Prop := fnExactTabPutRow.holds Try.pinned (OpenSpec.ofChange fnExactTabPutSpec)

/-- ITS FALSE NEIGHBOUR: 'it returns false'. Refute it at one input. -/
def fnExactTabPutWrong : ChangeSpec := { name := "fnExactTabPut", fn := fun _ => fun
  | [d1, d2] => { results := [.lit (.bool false)], args := [d1, d2] }
  | _ => none }
def FnExactTabPutWrongFalsely : Prop := fnExactTabPutRow.holds Try.pinned (OpenSpec.ofChange fnExactTabPutWrong)

/-- 'laws.FnExactSymEnd': WHATEVER THE INPUT: true; the input reads as it did. -/
def fnExactSymEndSpec : ChangeSpec := { name := "fnExactSymEnd", fn := fun _ => fun
  | [d1, d2] => { results := [.lit (.bool true)], args := [d1, d2] }
  | _ => none }
def fnExactSymEndRow : OpenClaim := { program := "ytdmbgljkogpmdaa", sum := "e6e0766fd0a4e219ad061a87f97fe6c65de1bbd3fe7da4d829b1a3d63aeb08f9", func := "loop.example/latimer/laws.FnExactSymEnd", spec := "fnExactSymEnd", unfollowed := true, recurses := true, apart := false }
def FnExactSymEndSaid : Prop := fnExactSymEndRow.holds Try.pinned (OpenSpec.ofChange fnExactSymEndSpec)

/-- ITS FALSE NEIGHBOUR: 'it returns false'. Refute it at one input. -/
def fnExactSymEndWrong : ChangeSpec := { name := "fnExactSymEnd", fn := fun _ => fun
  | [d1, d2] => { results := [.lit (.bool false)], args := [d1, d2] }
  | _ => none }
def FnExactSymEndWrongFalsely : Prop := fnExactSymEndRow.holds Try.pinned (OpenSpec.ofChange fnExactSymEndWrong)

/- THE SECOND FORM. 'bulk': how many values and letters a reading holds, each counted each time it is reached (what is shared counts as often as it is met; a slice's spare places count too). A statement '..UptoSaid' is the law's where the arguments, and the package variables that the reading takes, are together of bulk at most 1048576: NARROWER than '..Said'. Prove '..Said' where nothing that the law and all that it calls make is longer than what came in: it says more and counts as full. Else prove '..UptoSaid'. A law counts once. -/
mutual
def uptoBulk {H : Type} : DataW H → Nat
  | .lit (.string bytes) => bytes.length + 1
  | .lit _ => 1
  | .nil => 1
  | .ptr d => uptoBulk d + 1
  | .slice elems spare => uptoBulkAll elems + uptoBulkAll spare + 1
  | .agg parts => uptoBulkAll parts + 1
  | .iface _ d => uptoBulk d + 1
  | .map entries => uptoBulkEntries entries + 1
  | .held _ => 1
def uptoBulkAll {H : Type} : List (DataW H) → Nat
  | [] => 0
  | d :: r => uptoBulk d + uptoBulkAll r
def uptoBulkEntries {H : Type} : List (Lit × DataW H) → Nat
  | [] => 0
  | x :: r => uptoBulkEntry x + uptoBulkEntries r
def uptoBulkEntry {H : Type} : Lit × DataW H → Nat
  | (.string bytes, d) => bytes.length + uptoBulk d + 1
  | (_, d) => uptoBulk d + 1
 end
def uptoSmall : (H : Type) → List (DataW H) → Bool := fun _ ds => decide (uptoBulkAll ds ≤ 1048576)
def OpenSpec.upto (s : _root_.Go.ChangeSpec) : _root_.Go.OpenSpec := { _root_.Go.OpenSpec.ofChange s with cond := some uptoSmall }

/-- 'laws.FnExactSymNew', WHERE WHAT IT READS IS OF BULK AT MOST 1048576: true; the input reads as it did. -/
def fnExactSymNewUptoRow : OpenClaim := { program := "ytdmbgljkogpmdaa", sum := "e6e0766fd0a4e219ad061a87f97fe6c65de1bbd3fe7da4d829b1a3d63aeb08f9", func := "loop.example/latimer/laws.FnExactSymNew", spec := "fnExactSymNew", unfollowed := true, recurses := true, apart := false, narrowed := true }
def FnExactSymNewUptoSaid : Prop := fnExactSymNewUptoRow.holds Try.pinned (OpenSpec.upto fnExactSymNewSpec)

/-- 'laws.FnExactTabPut', WHERE WHAT IT READS IS OF BULK AT MOST 1048576: true; the input reads as it did. -/
def fnExactTabPutUptoRow : OpenClaim := { program := "ytdmbgljkogpmdaa", sum := "e6e0766fd0a4e219ad061a87f97fe6c65de1bbd3fe7da4d829b1a3d63aeb08f9", func := "loop.example/latimer/laws.FnExactTabPut", spec := "fnExactTabPut", unfollowed := true, recurses := true, apart := false, narrowed := true }
def FnExactTabPutUptoSaid : Prop := fnExactTabPutUptoRow.holds Try.pinned (OpenSpec.upto fnExactTabPutSpec)

/-- 'laws.FnExactSymEnd', WHERE WHAT IT READS IS OF BULK AT MOST 1048576: true; the input reads as it did. -/
def fnExactSymEndUptoRow : OpenClaim := { program := "ytdmbgljkogpmdaa", sum := "e6e0766fd0a4e219ad061a87f97fe6c65de1bbd3fe7da4d829b1a3d63aeb08f9", func := "loop.example/latimer/laws.FnExactSymEnd", spec := "fnExactSymEnd", unfollowed := true, recurses := true, apart := false, narrowed := true }
def FnExactSymEndUptoSaid : Prop := fnExactSymEndUptoRow.holds Try.pinned (OpenSpec.upto fnExactSymEndSpec)

end Rows
end Go.Proofs.Ytdmbgljkogpmdaa
