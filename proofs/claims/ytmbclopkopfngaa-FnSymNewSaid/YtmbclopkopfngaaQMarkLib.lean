/-
  MarkLib, TabK
-/
import Derived.Test.YtmbclopkopfngaaQLib
import Derived.Test.YtmbclopkopfngaaQTabS
import Derived.Deep.DeepCutAuto
namespace Go.Proofs.Ytmbclopkopfngaa
open Go.RowKit
set_option linter.unusedVariables false
set_option linter.unusedSimpArgs false

/-- Only these blocks, and new ones, have turned. -/
structure Chg (F : List Nat) (w w' : World) : Prop where
  os : w'.os = w.os
  tape : w'.tape = w.tape
  output : w'.output = w.output
  size : w.heap.size ≤ w'.heap.size
  block : ∀ k, k < w.heap.size → k ∉ F → w'.heap[k]? = w.heap[k]?
  frozen : ∀ b o, b < w.heap.size → w'.frozen? ⟨b, o, none⟩ = w.frozen? ⟨b, o, none⟩
namespace Chg
variable {F G : List Nat} {a b c w : World}
theorem of_ext (h : Ext a b) (F : List Nat) : Chg F a b :=
  ⟨h.below.os, h.below.tape, h.below.output, h.size, fun k hk _ => h.heap hk, fun _ _ hb => h.frozen hb⟩
theorem refl (F : List Nat) (a : World) : Chg F a a := of_ext (Ext.refl a) F
theorem trans (h : Chg F a b) (k : Chg F b c) : Chg F a c := by
  exact ⟨k.os.trans h.os, k.tape.trans h.tape, k.output.trans h.output, Nat.le_trans h.size k.size, fun x hx hn => (k.block x (Nat.lt_of_lt_of_le hx h.size) hn).trans (h.block x hx hn),
    fun x o hx => (k.frozen x o (Nat.lt_of_lt_of_le hx h.size)).trans (h.frozen x o hx)⟩
theorem mono (h : Chg F a b) (hs : ∀ x, x ∈ F → x ∈ G) : Chg G a b :=
  ⟨h.os, h.tape, h.output, h.size, fun k hk hn => h.block k hk (fun hm => hn (hs k hm)), h.frozen⟩
theorem setCell (h : Chg F a b) {p : Addr} (hp : p.block ∈ F) (u : Value) : Chg F a (b.setCell p u) :=
  ⟨h.os, h.tape, h.output, by simpa [World.setCell] using h.size, fun k hk hn => (heap_set b p u k (fun e => hn (e ▸ hp))).trans (h.block k hk hn),
    fun x o hx => by rw [World.frozen?_setCell]; exact h.frozen x o hx⟩
theorem ext (h : Ext w a) (k : Chg F a b) (hF : ∀ x, x ∈ F → w.heap.size ≤ x) : Ext w b :=
  ⟨⟨k.os.trans h.below.os, k.tape.trans h.below.tape, k.output.trans h.below.output, Nat.le_trans h.size k.size, fun x hx => (k.block x (Nat.lt_of_lt_of_le hx h.size) (fun hm => by have := hF x hm; omega)).trans (h.heap hx)⟩⟩
theorem heap (h : Chg F a b) {x : Nat} (hx : x < a.heap.size) (hn : x ∉ F) : b.heap[x]? = a.heap[x]? := h.block x hx hn
theorem cell (h : Chg F a b) {x o : Nat} (hx : x < a.heap.size) (hn : x ∉ F) : b.cell? ⟨x, o, none⟩ = a.cell? ⟨x, o, none⟩ := World.cell?_of_block (w := a) (h.block x hx hn)
end Chg
/-- Only some cells of one block, these blocks, and new ones, have turned. -/
structure Loc (b lo hi : Nat) (G : List Nat) (w w' : World) : Prop where
  os : w'.os = w.os
  tape : w'.tape = w.tape
  output : w'.output = w.output
  size : w.heap.size ≤ w'.heap.size
  block : ∀ k, k < w.heap.size → k ≠ b → k ∉ G → w'.heap[k]? = w.heap[k]?
  cells : ∀ o, (o < lo ∨ hi ≤ o) → w'.cell? ⟨b, o, none⟩ = w.cell? ⟨b, o, none⟩
  frozen : ∀ x o, x < w.heap.size → w'.frozen? ⟨x, o, none⟩ = w.frozen? ⟨x, o, none⟩
namespace Loc
variable {b lo hi : Nat} {F G : List Nat} {w w1 w2 : World}
theorem refl (b lo hi : Nat) (G : List Nat) (w : World) : Loc b lo hi G w w := ⟨rfl, rfl, rfl, Nat.le_refl _, fun _ _ _ _ => rfl, fun _ _ => rfl, fun _ _ _ => rfl⟩
theorem set (h : Loc b lo hi G w w1) {o : Nat} (h1 : lo ≤ o) (h2 : o < hi) (u : Value) : Loc b lo hi G w (w1.setCell ⟨b, o, none⟩ u) := by
  refine ⟨h.os, h.tape, h.output, by simpa [World.setCell] using h.size, fun k hk hn hG => (heap_set w1 _ u k (fun e => hn e.symm)).trans (h.block k hk hn hG), fun j hj => ?_, fun x j hx => by rw [World.frozen?_setCell]; exact h.frozen x j hx⟩
  rw [World.cell?_setCell_other]
  · exact h.cells j hj
  · intro e; injection e with _ e2; omega
theorem mono (h : Loc b lo hi G w w1) (hs : ∀ x, x ∈ G → x ∈ F) : Loc b lo hi F w w1 :=
  ⟨h.os, h.tape, h.output, h.size, fun k hk hn hG => h.block k hk hn (fun hm => hG (hs k hm)), h.cells, h.frozen⟩
end Loc
/-- A value written over with numbers, from one on; and how many these are. -/
class Mk (α : Type) where
  put : α → Int → α
  ct : α → Nat
instance : Mk Int := ⟨fun _ k => k, fun _ => 1⟩
instance : Mk Bool := ⟨fun _ k => k % 3 == 0, fun _ => 1⟩
instance : Mk UInt8 := ⟨fun _ k => UInt8.ofNat k.toNat, fun _ => 1⟩
section
variable {α : Type} [Mk α]
def mkTo : List α → Int → Nat → List α
  | [], _, _ => []
  | a :: l, _, 0 => a :: l
  | a :: l, k, i + 1 => Mk.put a k :: mkTo l (k + Mk.ct a) i
def ctTo : List α → Nat → Nat
  | [], _ => 0
  | _, 0 => 0
  | a :: l, i + 1 => Mk.ct a + ctTo l i
instance : Mk (List α) := ⟨fun l k => mkTo l k l.length, fun l => ctTo l l.length⟩
end
/-- Cells of a block from a place on. -/
structure RowV (b o : Nat) (r : List Value) (w : World) : Prop where
  mk_ ::
  at_ : ∀ m u, r[m]? = some u → w.cell? ⟨b, o + m, none⟩ = some u
namespace RowV
variable {b o : Nat} {r r' : List Value} {w w' : World}
theorem set {x : Nat} {m : Nat} {u : Value} (h : RowV b o r w) (hm : m < r.length) (e : r' = r.set m u) (hx : x = o + m) : RowV b o r' (w.setCell ⟨b, x, none⟩ u) := by
  subst e
  subst hx
  refine ⟨fun m' x hx => ?_⟩
  by_cases hq : m' = m
  · subst hq
    rw [List.getElem?_set_self hm] at hx
    injection hx with hx
    subst hx
    exact World.cell?_setCell_same _ _ _ (h.at_ m' _ (List.getElem?_eq_getElem hm))
  · rw [List.getElem?_set_ne (fun e => hq e.symm)] at hx
    rw [World.cell?_setCell_other]
    · exact h.at_ m' x hx
    · intro e; injection e with _ e2; omega
theorem out {off i : Nat} (h : RowV b (off + i) r w) : ∀ m u, r[m]? = some u → w.cell? ⟨b, off + (i + m), none⟩ = some u := fun m u hu => by rw [← Nat.add_assoc]; exact h.at_ m u hu
end RowV

end Go.Proofs.Ytmbclopkopfngaa

namespace Go.Proofs.Ytmbclopkopfngaa
open Go.RowKit

set_option linter.unusedVariables false
set_option linter.unusedSimpArgs false
set_option maxRecDepth 100000

set_option maxHeartbeats 16000000 in
theorem specTabOk_any (t : TabTab) (vt1 : Value) (w : World) (ht1 : Sl w (Old w) vt1 t.atoms)  :
    Calls Try.prog 16 #[.agg #[vt1]] w fun e w' => e = .returned (.bool (tabOkB t)) ∧ Ext w w' := by
  obtain ⟨At1, ct1, rfl, hlt1, hmt1⟩ := ht1.form
  unfold maxLen at hmt1
  by_cases h4 : t.atoms.length ≤ 200
  rotate_left
  · have HV := hide (show tabOkB t = false by unfold tabOkB; rw [decide_eq_false h4]; rfl)
    have qa : decide ((200 : Int) < (t.atoms.length : Int)) = true := decide_eq_true (by omega)
    have qb : decide (200 < t.atoms.length) = true := decide_eq_true (by omega)
    go_enter Try.func16, Try.ntmps16
    go_upto_region 1 with fail
    have he0 : Ext w (w.alloc (Obj.cells #[(.slice At1 t.atoms.length ct1)] 25)) := (Ext.auto)
    have hs0 : w.heap.size + 1 ≤ ((w.alloc (Obj.cells #[(.slice At1 t.atoms.length ct1)] 25))).heap.size := by simp
    have hq0 := hide (show ((w.alloc (Obj.cells #[(.slice At1 t.atoms.length ct1)] 25))).heap.size = w.heap.size + 1 by simp)
    have hBt_0 : Bx (w.alloc (Obj.cells #[(.slice At1 t.atoms.length ct1)] 25)) (w.heap.size) [(.slice At1 t.atoms.length ct1)] := (by have := (Bx.new w #[(.slice At1 t.atoms.length ct1)] 25); simpa using this)
    have hFt_0 : ∀ oo, ((w.alloc (Obj.cells #[(.slice At1 t.atoms.length ct1)] 25))).frozen? ⟨w.heap.size, oo, none⟩ = false := fun oo => by simp
    generalize (w.alloc (Obj.cells #[(.slice At1 t.atoms.length ct1)] 25)) = w0 at *
    have yt : w.heap.size < w0.heap.size := by omega
    have xt0 : w0.cell? ⟨w.heap.size, 0, none⟩ = some ((.slice At1 t.atoms.length ct1)) := hBt_0 0 _ rfl
    go_wp2
    go_ret
    exact ⟨by rw [HV.out]; rfl, Ext.hold he0⟩
  have HV := hide (show tabOkB t = allB t.atoms.length (atomAtOk t.atoms) by unfold tabOkB; rw [decide_eq_true h4]; rfl)
  have qa : decide ((200 : Int) < (t.atoms.length : Int)) = false := decide_eq_false (by omega)
  have qb : decide (200 < t.atoms.length) = false := decide_eq_false (by omega)
  go_enter Try.func16, Try.ntmps16
  go_upto_region 1 with fail
  have he0 : Ext w (w.alloc (Obj.cells #[(.slice At1 t.atoms.length ct1)] 25)) := (Ext.auto)
  have hs0 : w.heap.size + 1 ≤ ((w.alloc (Obj.cells #[(.slice At1 t.atoms.length ct1)] 25))).heap.size := by simp
  have hq0 := hide (show ((w.alloc (Obj.cells #[(.slice At1 t.atoms.length ct1)] 25))).heap.size = w.heap.size + 1 by simp)
  have hBt_0 : Bx (w.alloc (Obj.cells #[(.slice At1 t.atoms.length ct1)] 25)) (w.heap.size) [(.slice At1 t.atoms.length ct1)] := (by have := (Bx.new w #[(.slice At1 t.atoms.length ct1)] 25); simpa using this)
  have hFt_0 : ∀ oo, ((w.alloc (Obj.cells #[(.slice At1 t.atoms.length ct1)] 25))).frozen? ⟨w.heap.size, oo, none⟩ = false := fun oo => by simp
  generalize (w.alloc (Obj.cells #[(.slice At1 t.atoms.length ct1)] 25)) = w0 at *
  have yt : w.heap.size < w0.heap.size := by omega
  have xt0 : w0.cell? ⟨w.heap.size, 0, none⟩ = some ((.slice At1 t.atoms.length ct1)) := hBt_0 0 _ rfl
  go_wp2
  clear xt0 yt
  clear qa qb
  go_loopw [3] (fun i wr => ∃ k : Nat, k ≤ t.atoms.length ∧ i = .int .i64 k ∧ Ext w0 wr ∧ Hid (∀ j, j < k → atomAtOk t.atoms j = true)) (fun i _ => t.atoms.length - (intOf i).toNat)
  case atStart => exact ⟨0, by omega, rfl, Ext.auto, fun j hj => absurd hj (by omega)⟩
  case round =>
    obtain ⟨k, hk, rfl, hx0, HT⟩ := hrel
    obtain ⟨w1, hw1⟩ : ∃ w1 : World, w1 = wr := ⟨_, rfl⟩
    subst hw1
    have hz := hx0.size
    have he := he0.trans hx0
    have hB1 := hx0.bx hBt_0 (by omega)
    have xt0 := hB1 0 _ rfl
    have yt : w.heap.size < w1.heap.size := by omega
    by_cases hlt : k < t.atoms.length
    · obtain ⟨b, off, va1, va2, rfl, hbo, hk0, hva1, hva2, e0, e1, e2, e3⟩ := at_TabAtom (ht1.ext he) hlt
      obtain ⟨Ava1, cva1, rfl, -, -⟩ := hva1.form
      obtain ⟨Ava2, cva2, rfl, -, -⟩ := hva2.form
      have hbo1 : b < w1.heap.size := hbo
      have z0 : (0 : Int) ≤ (k : Int) := by omega
      have z1 : (k : Int) < (t.atoms.length : Int) := by omega
      have HG := hide (gA_at t.atoms k hlt)
      go_wp2_with fail
      refine (specAtom_any t.atoms[k] (k : Int) _ _ _ hva1 hva2).mono ?_
      rintro e w2 ⟨rfl, hx2⟩
      have hs2 := hx2.size
      have he2 := he.trans hx2
      cases q0 : atomOkB t.atoms[k] (k : Int)
      · have HF := hide (show tabOkB t = false by rw [HV.out]; exact allB_no hlt (by unfold atomAtOk; rw [HG.out, q0]; rfl))
        go_wp2
        go_ret
        exact ⟨by rw [HF.out]; rfl, he2⟩
      have xt2 := (hx2.cell yt).trans xt0
      go_wp2
      go_loopw [4] (fun i wr => ∃ j : Nat, j ≤ k ∧ i = .int .i64 j ∧ Ext w2 wr ∧ Hid (∀ i, i < j → (!decide (gA t.atoms i = gA t.atoms k)) = true)) (fun i _ => k - (intOf i).toNat)
      case atStart => exact ⟨0, by omega, rfl, Ext.refl _, fun j hj => absurd hj (by omega)⟩
      case round =>
        obtain ⟨j, hj, rfl, hx3, HTj⟩ := hrel
        obtain ⟨w3, hw3⟩ : ∃ w3 : World, w3 = wr := ⟨_, rfl⟩
        subst hw3
        have hs3 := hx3.size
        have he3 := he2.trans hx3
        have xt3 := (hx3.cell (by omega)).trans xt2
        have yt3 : w.heap.size < w3.heap.size := by omega
        have hbo3 : b < w3.heap.size := by omega
        by_cases hjk : j < k
        · obtain ⟨bj, offj, vaj1, vaj2, hbe, hboj, hkj0, hvaj1, hvaj2, ej0, ej1, ej2, ej3⟩ := at_TabAtom (ht1.ext he3) (show j < t.atoms.length by omega)
          obtain ⟨Avaj1, cvaj1, rfl, -, -⟩ := hvaj1.form
          obtain ⟨Avaj2, cvaj2, rfl, -, -⟩ := hvaj2.form
          injection hbe with hbe
          injection hbe with hb1 hb2
          subst hb1 hb2
          have y0 : (0 : Int) ≤ (j : Int) := by omega
          have y1 : (j : Int) < (t.atoms.length : Int) := by omega
          have q9 : decide (j < k) = true := decide_eq_true hjk
          have HGj := hide (gA_at t.atoms j (by omega))
          have f0 := ((hx2.trans hx3).cell hbo1).trans e0
          have f1 := ((hx2.trans hx3).cell hbo1).trans e1
          have f2 := ((hx2.trans hx3).cell hbo1).trans e2
          have f3 := ((hx2.trans hx3).cell hbo1).trans e3
          go_upto_region 11 with fail
          have hS : ∀ w', Ext w3 w' → ∀ bb oo, bb < w3.heap.size → w'.cell? ⟨bb, oo, none⟩ = w3.cell? ⟨bb, oo, none⟩ := fun w' hx bb oo hb => hx.cell hb
          refine wp_region_plan (fun w' => Ext w3 w') 10 (.float 0 (.float 1 (.float 2 (.float 3 (.float 4 (.float 5 (.float 6 (.float 7 (.float 8 (.float 9 (.tail 10))))))))))) (by kernel_rfl) (by kernel_rfl) (Ext.refl _).drew ?_
          iterate 10 ((refine Plan.float_step (v := ?_) rfl (by rfl) (fun _ _ _ h => h) (fun w' hSw => ?_) ?_; rotate_left; · (go_simp; try with_reducible rfl)); (try simp only [Act.put, List.setIfInBounds_toArray, List.set_cons_zero, List.set_cons_succ]))
          refine Plan.tail_step ?_
          simp only [List.drop_succ_cons, List.drop_zero]
          clear hS
          go_wp2_with fail
          refine (specSameAtom_any t.atoms[j] t.atoms[k] _ _ _ _ _ (hvaj1.ext Ext.auto) (hvaj2.ext Ext.auto) ((hva1.ext (hx2.trans hx3)).ext Ext.auto) ((hva2.ext (hx2.trans hx3)).ext Ext.auto)).mono ?_
          rintro e w4 ⟨rfl, hy⟩
          have hx4 : Ext w3 w4 := Ext.trans Ext.auto hy
          clear hy
          cases qs : decide (t.atoms[j] = t.atoms[k])
          · have HN := hide (allB_next (f := fun i => !decide (gA t.atoms i = gA t.atoms k)) HTj.out (by rw [HGj.out, HG.out, qs]; rfl))
            go_wp2_with fail
            go_roundw
            case rel => exact ⟨j + 1, by omega, by go_num, hx3.trans hx4, HN.out⟩
            case measure => (simp [intOf]; try omega)
          · have HF := hide (show tabOkB t = false by rw [HV.out]; exact allB_no hlt (by unfold atomAtOk freshB; rw [allB_no (k := j) hjk (by rw [HGj.out, HG.out, qs]; rfl)]; simp))
            go_wp2
            go_ret
            exact ⟨by rw [HF.out]; rfl, he3.trans hx4⟩
        · have q9 : decide (j < k) = false := decide_eq_false hjk
          have HJ := hide (show j = k by omega)
          have HN := hide (allB_next HT.out (show atomAtOk t.atoms k = true by unfold atomAtOk freshB; rw [HG.out, q0]; exact allB_yes (fun i hi => by have := HTj.out i (by omega); rw [← HG.out]; exact this)))
          go_wp2_with fail
          go_roundw
          case rel => exact ⟨k + 1, by omega, by go_num, (hx0.trans hx2).trans hx3, HN.out⟩
          case measure => (simp [intOf]; try omega)
    · obtain rfl : k = t.atoms.length := by omega
      have HF := hide (show tabOkB t = true by rw [HV.out]; exact allB_yes HT.out)
      go_wp2
      go_ret
      exact ⟨by rw [HF.out]; rfl, he⟩

end Go.Proofs.Ytmbclopkopfngaa
