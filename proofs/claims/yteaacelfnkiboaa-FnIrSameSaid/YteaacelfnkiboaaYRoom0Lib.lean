/-
  Room0Lib, RoomLib, EndHas, Clone, DrawO, KeepP
-/
import Derived.Test.YteaacelfnkiboaaYRowLib
import Derived.Test.YteaacelfnkiboaaYCertLib
import Derived.Test.YteaacelfnkiboaaYByteLib
import Derived.Test.YteaacelfnkiboaaYWords
import Derived.Test.YteaacelfnkiboaaYOptPure
import Derived.Test.YteaacelfnkiboaaYAppLib
import Derived.Test.YteaacelfnkiboaaYRead
import Derived.Test.YteaacelfnkiboaaYDrawF
import Derived.Test.YteaacelfnkiboaaYRegLib
import Derived.Deep.DeepCutAuto
namespace Go.Proofs.Yteaacelfnkiboaa
open Go.RowKit
set_option linter.unusedVariables false
set_option linter.unusedSimpArgs false

/-- A slice whose block has so many cells for each place up to its capacity. -/
def Room (lo sz : Nat) (e : TypeId) (w : World) (v : Value) : Prop := ∀ (a : Addr) (n c : Nat), v = .slice (some a) n c → ∃ (g : Nat) (cur : Array Value), a = ⟨g, 0, none⟩ ∧ lo ≤ g ∧ w.heap[g]? = some (.cells cur e (0, 0)) ∧ cur.size = c * sz
theorem Room.nil (lo sz : Nat) (e : TypeId) (w : World) : Room lo sz e w (.slice none 0 0) := fun a n c h => by simp at h
theorem Room.of_app {α : Type} [Own α] {w wr : World} {e : TypeId} {v : Value} {l : List α} {Fs : List (List Nat)} {xs : List Value} (h : App w wr e v l Fs xs) : Room w.heap.size (Rep.sz α) e wr v := by
  intro a n c hv
  rcases h.row.2 with ⟨h1, h2⟩ | ⟨g', cap, cur, h1, hb, hh, hnc, hcm, hcs, ht⟩
  · rw [h1] at hv; simp at hv
  · rw [h1] at hv
    injection hv with e1 e2 e3
    injection e1 with e1
    subst e1 e3
    exact ⟨g', cur, rfl, hb, hh, hcs⟩
section
variable {lo sz : Nat} {e : TypeId} {w w' : World} {v : Value}
theorem Room.lt (h : Room lo sz e w v) : ∀ q, v.ownBlock = some q → q < w.heap.size := by
  intro q hq
  cases v with
  | slice a n c =>
    cases a with
    | none => simp [Value.ownBlock] at hq
    | some a =>
      obtain ⟨g, cur, rfl, -, hh, -⟩ := h a n c rfl
      simp [Value.ownBlock] at hq
      subst hq
      exact (Array.getElem?_eq_some_iff.1 hh).1
  | _ => simp [Value.ownBlock] at hq
theorem Room.down {lo' : Nat} (h : Room lo sz e w v) (hl : lo' ≤ lo) : Room lo' sz e w v := by
  intro a n c hv
  obtain ⟨g, cur, h0, hg, hh, hs⟩ := h a n c hv
  exact ⟨g, cur, h0, Nat.le_trans hl hg, hh, hs⟩
theorem Room.ext (h : Room lo sz e w v) (k : Ext w w') : Room lo sz e w' v := by
  intro a n c hv
  obtain ⟨g, cur, h0, hl, hh, hs⟩ := h a n c hv
  exact ⟨g, cur, h0, hl, (k.heap (Array.getElem?_eq_some_iff.1 hh).1).trans hh, hs⟩
theorem Room.set (h : Room lo sz e w v) (p : Addr) (u : Value) : Room lo sz e (w.setCell p u) v := by
  intro a n c hv
  obtain ⟨g, cur, h0, hl, hh, hs⟩ := h a n c hv
  by_cases hp : p.block = g
  · refine ⟨g, if p.spot.isSome then cur else cur.setIfInBounds p.off u, h0, hl, ?_, by split <;> simpa using hs⟩
    simp only [World.setCell, Array.getElem?_modify, hp, if_true, hh]
    rfl
  · exact ⟨g, cur, h0, hl, (heap_set w p u g hp).trans hh, hs⟩
theorem Room.alloc (h : Room lo sz e w v) (o : Obj) : Room lo sz e (w.alloc o) v := h.ext ((Ext.refl w).alloc o)
theorem Room.drew (h : Room lo sz e w v) : Room lo sz e w.drew v := h.ext (Ext.refl w).drew
theorem Room.grown {o : Option Nat} (h : Room lo sz e w v) (k : w.grownBy w' o) (hne : ∀ q, v.ownBlock = some q → some q ≠ o) : Room lo sz e w' v := by
  intro a n c hv
  obtain ⟨g, cur, h0, hl, hh, hs⟩ := h a n c hv
  exact ⟨g, cur, h0, hl, (k.block g (Array.getElem?_eq_some_iff.1 hh).1 (hne g (by rw [hv, h0]; rfl))).trans hh, hs⟩
theorem Room.hold (h : Room lo sz e w v) (k : Room lo sz e w v → Room lo sz e w' v := by intro h; (repeat' (first | (with_reducible exact h) | (with_reducible refine Room.alloc ?_ _) | (with_reducible refine Room.set ?_ _ _) | (with_reducible refine Room.drew ?_)))) : Room lo sz e w' v := k h
end

end Go.Proofs.Yteaacelfnkiboaa

namespace Go.Proofs.Yteaacelfnkiboaa
open Go.RowKit
set_option linter.unusedVariables false
set_option linter.unusedSimpArgs false

theorem Room.turn {lo sz : Nat} {e : TypeId} {w w' : World} {v : Value} {F : List Nat} (h : Room lo sz e w v) (k : Turn F w w') (hF : ∀ q, v.ownBlock = some q → q ∉ F) : Room lo sz e w' v := by
  intro a n c hv
  obtain ⟨g, cur, h0, hl, hh, hs⟩ := h a n c hv
  exact ⟨g, cur, h0, hl, (k.block g (Array.getElem?_eq_some_iff.1 hh).1 (hF g (by rw [hv, h0]; rfl))).trans hh, hs⟩
/-- A slice of plain elements whose room is there may be appended to. -/
theorem Gro.of_room {α : Type} [Flat α] {w : World} {e : TypeId} {lo : Nat} {v : Value} {l : List α} {F : List Nat} (h : OwnSl w v l F) (hc : Room lo (Rep.sz α) e w v) : Gro e lo w v l := by
  obtain ⟨A, c, rfl, hl, hm, h0, hnil, hne⟩ := h
  cases A with
  | none =>
    have hc0 := h0 rfl
    subst hc0
    have : l = [] := List.eq_nil_of_length_eq_zero (by omega)
    subst this
    exact Gro.nil w e lo
  | some a =>
    obtain ⟨g, cur, rfl, hlo, hh, hs⟩ := hc a _ c rfl
    by_cases hl0 : l = []
    · subst hl0
      exact ⟨voidOf w, [], [], void_size w, ⟨⟨void_ext w, ⟨by simp, .inr ⟨g, c, cur, rfl, by rw [void_size]; omega, hh, hl, hm, hs, by simp⟩⟩, rfl, Fr.nil _ _, by simp, fun i a Fi ha => by simp at ha⟩, fun q hq => by simp [Value.ownBlock] at hq; omega, rfl⟩⟩
    · obtain ⟨b, o, Gs, he, hF, hGl, hfz, hel⟩ := hne hl0
      injection he with he
      injection he with e1 e2 e3
      subst e1 e2
      have hcs : l.length * Rep.sz α ≤ cur.toList.length := by
        have := Nat.mul_le_mul_right (Rep.sz α) hl
        simp; omega
      have hct : (cur.toList.take (l.length * Rep.sz α)).length = l.length * Rep.sz α := List.length_take_of_le hcs
      refine ⟨voidOf w, List.replicate l.length [], cur.toList.take (l.length * Rep.sz α), void_size w, ⟨⟨void_ext w, ⟨hct, .inr ⟨g, c, cur, rfl, by rw [void_size]; omega, hh, hl, hm, hs, rfl⟩⟩, by simp, by simp; exact Fr.nil _ _, by simp, fun i a Fi ha hF => ?_⟩, fun q hq => by simp [Value.ownBlock] at hq; omega, by simp⟩⟩
      have hFi : Fi = [] := (List.mem_replicate.1 (List.mem_of_getElem? hF)).2
      subst hFi
      have hi : i < Gs.length := by rw [hGl]; exact (List.getElem?_eq_some_iff.1 ha).1
      obtain ⟨vs, k1, k2⟩ := hel i a Gs[i] ha (List.getElem?_eq_getElem hi)
      refine ⟨vs, Flat.owns (Own.asRep k1), fun j u hu => ?_⟩
      have h3 := k2 j u hu
      have hj : j < Rep.sz α := by rw [← Rep.len (Own.asRep k1)]; exact (List.getElem?_eq_some_iff.1 hu).1
      have hil : i < l.length := (List.getElem?_eq_some_iff.1 ha).1
      have hlt : i * Rep.sz α + j < l.length * Rep.sz α := by
        have : (i + 1) * Rep.sz α ≤ l.length * Rep.sz α := Nat.mul_le_mul_right _ hil
        rw [Nat.add_mul] at this
        omega
      rw [List.getElem?_take, if_pos hlt, Array.getElem?_toList]
      simp [World.cell?, hh] at h3
      exact h3
/-- A growing slice reads as its list; its block lies behind the place. -/
def GlO {α : Type} [Rep α] (lo : Nat) (w : World) (v : Value) (L : List α) : Prop := Sl w (fun b => lo ≤ b ∧ b < w.heap.size) v L
section
variable {α : Type} [Flat α] {e : TypeId} {lo : Nat} {w w' : World} {v : Value} {L : List α}
theorem GlO.of_gro (h : Gro e lo w v L) : GlO lo w v L := by
  obtain ⟨wa, Fs, xs, h0, h⟩ := h
  obtain ⟨F, hO, hF⟩ := h.app.done4
  refine hO.sl.keep (fun _ _ _ => rfl) (fun b hb => ?_)
  rcases hF with rfl | ⟨q, hq, rfl⟩
  · simp at hb
  · simp at hb
    subst hb
    exact ⟨h.low b hq, h.lt b hq⟩
theorem GlO.of_own {w0 : World} {F : List Nat} (h : OwnSl w v L F) (hF : Fr w0 w F) : GlO w0.heap.size w v L := h.sl.keep (fun _ _ _ => rfl) (fun b hb => hF.2 b hb)
theorem GlO.sl (h : GlO lo w v L) : Sl w (Old w) v L := h.keep (fun _ _ _ => rfl) (fun b hb => hb.2)
theorem GlO.turn {F : List Nat} (h : GlO lo w v L) (k : Turn F w w') (hF : ∀ x, x ∈ F → x < lo) : GlO lo w' v L :=
  (Sl.turn h k (fun x hx => ⟨hx.2, fun hm => by have := hF x hm; omega⟩)).keep (fun _ _ _ => rfl) (fun b hb => ⟨hb.1, Nat.lt_of_lt_of_le hb.2 k.size⟩)
theorem GlO.down {lo' : Nat} (h : GlO lo w v L) (hl : lo' ≤ lo) : GlO lo' w v L := h.keep (fun _ _ _ => rfl) (fun b hb => ⟨Nat.le_trans hl hb.1, hb.2⟩)
end

end Go.Proofs.Yteaacelfnkiboaa

namespace Go.Proofs.Yteaacelfnkiboaa
open Go.RowKit

set_option linter.unusedVariables false
set_option linter.unusedSimpArgs false
set_option maxRecDepth 100000

set_option maxHeartbeats 4000000 in
theorem endHas_any (b : IrBlock) (v : Value) (w : World) (h : Sl w (Old w) v b.ops) :
    Calls Try.prog 86 #[.agg #[.int .i64 b.pc, .int .i64 b.len, v, .int .i64 b.fin, .int .i64 b.x, .int .i64 b.y, .int .i64 b.k]] w fun e w' => e = .returned (.tuple #[.bool (endX b.fin), .bool (endY b.fin), .bool (endK b.fin)]) ∧ Ext w w' := by
  obtain ⟨Ab1, cb1, rfl, hl, hm⟩ := h.form
  go_enter Try.func86, Try.ntmps86
  go_wp2_with fail
  have he0 : Ext w (w.alloc (Obj.cells #[.int .i64 b.pc, .int .i64 b.len, (.slice Ab1 b.ops.length cb1), .int .i64 b.fin, .int .i64 b.x, .int .i64 b.y, .int .i64 b.k] 25)) := (Ext.auto)
  have hs0 : w.heap.size + 1 ≤ ((w.alloc (Obj.cells #[.int .i64 b.pc, .int .i64 b.len, (.slice Ab1 b.ops.length cb1), .int .i64 b.fin, .int .i64 b.x, .int .i64 b.y, .int .i64 b.k] 25))).heap.size := by simp
  have hq0 := hide (show ((w.alloc (Obj.cells #[.int .i64 b.pc, .int .i64 b.len, (.slice Ab1 b.ops.length cb1), .int .i64 b.fin, .int .i64 b.x, .int .i64 b.y, .int .i64 b.k] 25))).heap.size = w.heap.size + 1 by simp)
  have hBb_0 : Bx (w.alloc (Obj.cells #[.int .i64 b.pc, .int .i64 b.len, (.slice Ab1 b.ops.length cb1), .int .i64 b.fin, .int .i64 b.x, .int .i64 b.y, .int .i64 b.k] 25)) (w.heap.size) [.int .i64 b.pc, .int .i64 b.len, (.slice Ab1 b.ops.length cb1), .int .i64 b.fin, .int .i64 b.x, .int .i64 b.y, .int .i64 b.k] := (by have := (Bx.new w #[.int .i64 b.pc, .int .i64 b.len, (.slice Ab1 b.ops.length cb1), .int .i64 b.fin, .int .i64 b.x, .int .i64 b.y, .int .i64 b.k] 25); simpa using this)
  have hFb_0 : ∀ oo, ((w.alloc (Obj.cells #[.int .i64 b.pc, .int .i64 b.len, (.slice Ab1 b.ops.length cb1), .int .i64 b.fin, .int .i64 b.x, .int .i64 b.y, .int .i64 b.k] 25))).frozen? ⟨w.heap.size, oo, none⟩ = false := fun oo => by simp
  generalize (w.alloc (Obj.cells #[.int .i64 b.pc, .int .i64 b.len, (.slice Ab1 b.ops.length cb1), .int .i64 b.fin, .int .i64 b.x, .int .i64 b.y, .int .i64 b.k] 25)) = w0 at *
  have yb : w.heap.size < w0.heap.size := by omega
  have xb0 := hBb_0 0 _ rfl
  have xb1 := hBb_0 1 _ rfl
  have xb2 := hBb_0 2 _ rfl
  have xb3 := hBb_0 3 _ rfl
  have xb4 := hBb_0 4 _ rfl
  have xb5 := hBb_0 5 _ rfl
  have xb6 := hBb_0 6 _ rfl
  go_wp2_with fail
  have hS : ∀ w', Ext w0 w' → ∀ bb oo, bb < w0.heap.size → w'.cell? ⟨bb, oo, none⟩ = w0.cell? ⟨bb, oo, none⟩ := fun w' hx bb oo hb => hx.cell hb
  refine wp_region_plan (fun w' => Ext w0 w') 11 (.float 0 (.float 1 (.float 2 (.float 3 (.float 4 (.float 5 (.float 6 (.float 7 (.float 8 (.float 9 (.float 10 (.tail 11)))))))))))) (by kernel_rfl) (by kernel_rfl) (Ext.refl _).drew ?_
  iterate 11 ((refine Plan.float_step (v := ?_) rfl (by rfl) (fun _ _ _ h => h) (fun w' hSw => ?_) ?_; rotate_left; · (go_simp; try with_reducible rfl)); (try simp only [Act.put, List.setIfInBounds_toArray, List.set_cons_zero, List.set_cons_succ]))
  refine Plan.tail_step ?_
  simp only [List.drop_succ_cons, List.drop_zero]
  clear hS
  clear xb0 xb1 xb2 xb3 xb4 xb5 xb6 yb
  go_wp2
  refine bodyPost_ret (v := .tuple #[.bool (endX b.fin), .bool (endY b.fin), .bool (endK b.fin)]) (by simp [results, Try.results86, go_sem]; exact ⟨rfl, rfl, rfl⟩) rfl ⟨rfl, ?_⟩
  exact (Ext.hold he0)

end Go.Proofs.Yteaacelfnkiboaa

namespace Go.Proofs.Yteaacelfnkiboaa
open Go.RowKit

set_option linter.unusedVariables false
set_option linter.unusedSimpArgs false
set_option maxRecDepth 100000

instance : Flat IrOp where
  pos := by decide
  flat h := ⟨h.1, h.2, rfl⟩
  one h u hu := by
    obtain ⟨rfl, _⟩ := h
    simp at hu
    rcases hu with rfl | rfl | rfl | rfl | rfl <;> rfl

set_option maxHeartbeats 1000000 in
theorem l6CopyR_any (o : IrBlock) (v1 : Value) (w : World) (h : Sl w (Old w) v1 o.ops) (hn : o.ops.length ≤ 4194304) :
    Calls Try.prog 100 #[.agg #[.int .i64 o.pc, .int .i64 o.len, v1, .int .i64 o.fin, .int .i64 o.x, .int .i64 o.y, .int .i64 o.k]] w fun e w' => ∃ r1 F, e = .returned (.agg #[.int .i64 o.pc, .int .i64 o.len, r1, .int .i64 o.fin, .int .i64 o.x, .int .i64 o.y, .int .i64 o.k]) ∧ OwnSl w' r1 o.ops F ∧ Fr w w' F ∧ Ext w w' ∧ Room w.heap.size (Rep.sz IrOp) 58 w' r1 := by
  obtain ⟨A, c, rfl, hl, hm⟩ := h.form
  obtain ⟨i0, hi, hz0, hz1, hz2⟩ := info_parts infIrOp
  have HI := hide hi
  have HZ0 := hide hz0
  have HZ1 := hide hz1
  have HZ2 := hide hz2
  clear hi hz0 hz1 hz2
  go_enter Try.func100, Try.ntmps100
  go_wp2_with (at_builtin; refine wpList_append_flat (α := IrOp) rfl _ _ 23 rfl i0 _ 40 Try.underlying23 HI.out HZ0.out HZ1.out HZ2.out rfl (App.emptyAt _ 58 _ (by simp)) rfl _ o.ops (Old w) rfl (h.keep (Ext.old (Ext.auto)) (fun _ h => h)) (by simp [maxLen]; omega) (by simp; omega) ?_; intro v' w1 Fs' xs' hA; obtain ⟨F, hO, hF⟩ := hA.done; have hx1 := hA.ext; have hZ := (Room.of_app hA).down (lo' := w.heap.size) (by simp; try omega); clear hA; obtain ⟨B1, d1, rfl, -, -⟩ := hO.sl.form; have hs1 := hx1.size; try simp at hs1; have he1 : Ext w w1 := Ext.trans (Ext.auto) hx1; have hc1 := fun b o (hb : b < w.heap.size + 1 + 1 + 1) => hx1.cell (b := b) (o := o) (by first | omega | (simp; omega)); have hg1 := fun b o (hb : b < w.heap.size + 1 + 1 + 1) => hx1.frozen (b := b) (o := o) (by first | omega | (simp; omega)); have hcell : w1.cell? ⟨w.heap.size + 1 + 1, 2, none⟩ = some (.slice A o.ops.length c) := by rw [hc1 _ _ (by omega)]; simp [go_sem])
  refine bodyPost_ret (v := .agg #[.int .i64 o.pc, .int .i64 o.len, .slice B1 o.ops.length d1, .int .i64 o.fin, .int .i64 o.x, .int .i64 o.y, .int .i64 o.k]) (by simp [results, Try.results100, go_sem, hc1, hg1]) rfl ⟨_, F, rfl, ?_, ?_, ?_, Room.hold hZ⟩
  · exact OwnSl.stay hO (fun b hb => by
      have q := hF.2 b hb; have q1 := q.1; have q2 := q.2; simp at q1 q2
      repeat (first | rw [heap_set _ _ _ _ (by simp; omega)]))
  · exact Fr.mk1 hF (by simp; try omega) (by simp; try omega)
  · exact (Ext.hold he1)
theorem l6Copy_any (o : IrBlock) (v1 : Value) (w : World) (h : Sl w (Old w) v1 o.ops) (hn : o.ops.length ≤ 4194304) :
    Calls Try.prog 100 #[.agg #[.int .i64 o.pc, .int .i64 o.len, v1, .int .i64 o.fin, .int .i64 o.x, .int .i64 o.y, .int .i64 o.k]] w fun e w' => ∃ r1 F, e = .returned (.agg #[.int .i64 o.pc, .int .i64 o.len, r1, .int .i64 o.fin, .int .i64 o.x, .int .i64 o.y, .int .i64 o.k]) ∧ OwnSl w' r1 o.ops F ∧ Fr w w' F ∧ Ext w w' :=
  (l6CopyR_any o v1 w h hn).mono fun e w' ⟨r1, F, h1, h2, h3, h4, _⟩ => ⟨r1, F, h1, h2, h3, h4⟩

end Go.Proofs.Yteaacelfnkiboaa

namespace Go.Proofs.Yteaacelfnkiboaa
open Go.RowKit

set_option linter.unusedVariables false
set_option linter.unusedSimpArgs false
set_option maxRecDepth 100000

instance : Flat InsIns where
  pos := by decide
  flat h := ⟨h.1, h.2, rfl⟩
  one h u hu := by obtain ⟨rfl, _⟩ := h; simp at hu; rcases hu with rfl | rfl | rfl | rfl <;> rfl
theorem InsIn.ok {i : InsIns} (h : InsIn i) : i.Ok := by
  obtain ⟨⟨a1, a2⟩, ⟨b1, b2⟩, ⟨c1, c2⟩, ⟨d1, d2⟩⟩ := h
  refine ⟨?_, ?_, ?_, ?_⟩ <;> (unfold Fits; omega)
theorem infInsIns : (Try.prog.info? 114).map (fun i => (i.zero, i.size, i.bytes)) = some (some (.agg #[.int .i64 0, .int .i64 0, .int .i64 0, .int .i64 0]), 4, 32) := by kernel_rfl

end Go.Proofs.Yteaacelfnkiboaa

namespace Go.Proofs.Yteaacelfnkiboaa
open Go.RowKit

set_option linter.unusedVariables false
set_option linter.unusedSimpArgs false
set_option maxRecDepth 100000

theorem FRow.op {w : World} {b off : Nat} {l : List IrOp} (h : FRow w b off l) {i : Nat} {a : IrOp} (ha : l[i]? = some a) :
    a.Ok ∧ w.cell? ⟨b, off + i * 5, none⟩ = some (.int .i64 a.kind) ∧ w.cell? ⟨b, off + i * 5 + 1, none⟩ = some (.int .i64 a.x) ∧ w.cell? ⟨b, off + i * 5 + 2, none⟩ = some (.int .i64 a.y) ∧ w.cell? ⟨b, off + i * 5 + 3, none⟩ = some (.int .i64 a.k) ∧ w.cell? ⟨b, off + i * 5 + 4, none⟩ = some (.int .i64 a.at_) := by
  obtain ⟨vs, ⟨rfl, hk⟩, h2⟩ := h.els i a ha
  exact ⟨hk, h2 0 _ rfl, h2 1 _ rfl, h2 2 _ rfl, h2 3 _ rfl, h2 4 _ rfl⟩
theorem FRow.opcells {w : World} {b off : Nat} {l : List IrOp} (h : FRow w b off l) {i : Nat} {a : IrOp} (ha : l[i]? = some a) :
    ∀ k x, ([.int .i64 a.kind, .int .i64 a.x, .int .i64 a.y, .int .i64 a.k, .int .i64 a.at_] : List Value)[k]? = some x → w.cell? ⟨b, off + (i * Rep.sz IrOp + k), none⟩ = some x := by
  obtain ⟨vs, ⟨rfl, hk⟩, h2⟩ := h.els i a ha
  exact h2
theorem infzInt : (Try.prog.info? 3).map (fun i => (i.zero, i.size, i.bytes)) = some (some (.int .i64 0), 1, 8) := by kernel_rfl

theorem infzBool : (Try.prog.info? 4).map (fun i => (i.zero, i.size, i.bytes)) = some (some (.bool false), 1, 1) := by kernel_rfl

end Go.Proofs.Yteaacelfnkiboaa
