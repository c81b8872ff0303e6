/-
  The same for structs that hold slices, and for slices of them.
-/
import Derived.Test.YteaacelfnkiboaaMark
namespace Go.Proofs.Yteaacelfnkiboaa
open Go.RowKit

set_option linter.unusedVariables false
set_option linter.unusedSimpArgs false
set_option maxRecDepth 100000

set_option maxHeartbeats 2000000 in
theorem mark_IrBlock (o : IrBlock) (v1 : Value) (F1 : List Nat) (k : Int) (w : World) (ho1 : OwnSl w v1 o.ops F1) (hnd : (F1).Nodup) (hlt : ∀ x, x ∈ F1 → x < w.heap.size) (h0 : 0 ≤ k) (hm : k + ((IrBlock.ctV o : Nat) : Int) ≤ 1099511627776) :
    Calls Try.prog 29 #[.agg #[.int .i64 o.pc, .int .i64 o.len, v1, .int .i64 o.fin, .int .i64 o.x, .int .i64 o.y, .int .i64 o.k], .int .i64 k] w fun e w' => e = .returned (.int .i64 (k + ((IrBlock.ctV o : Nat) : Int))) ∧ OwnSl w' v1 (Mk.put o.ops (k)) F1 ∧ Chg (F1) w w' := by
  have hct : IrBlock.ctV o = Mk.ct o.ops := rfl
  have nd1 := hnd
  have lt1 : ∀ x, x ∈ F1 → x < w.heap.size := fun x hx => hlt x (by simp [hx])
  obtain ⟨Av1, cv1, rfl, -, -⟩ := ho1.sl.form
  go_enter Try.func29, Try.ntmps29
  go_wp2_with fail
  refine (mark_ListIrOp o.ops _ F1 _ _ (ho1.stay (fun x hx => by have hq := lt1 x hx; exact Ext.heap (Ext.auto) hq)) nd1 (fun x hx => by have := lt1 x hx; first | omega | (simp; omega)) (by omega) (by omega)).mono ?_
  rintro e w1 ⟨rfl, hp1, hh1⟩
  have hs1 := hh1.size
  try simp at hs1
  have hc1 := fun o => hh1.cell (x := w.heap.size) (o := o) (by first | omega | (simp; try omega)) (fun hx => Nat.lt_irrefl _ (hlt _ (by exact hx)))
  have hcg : ∀ W, Ext w W → True := fun _ _ => trivial
  clear hcg
  go_wp2
  go_ret
  exact ⟨congrArg (fun z => Ending.returned (.int .i64 z)) (by omega), hp1, (Chg.trans (Chg.of_ext (Ext.auto) _) (hh1.mono (fun x hx => by exact hx)))⟩

set_option maxHeartbeats 2000000 in
theorem mark_MchMach (o : MchMach) (v1 v2 v3 v4 : Value) (F1 F2 F3 F4 : List Nat) (k : Int) (w : World) (ho1 : OwnSl w v1 o.regs F1) (ho2 : OwnSl w v2 o.mem F2) (ho3 : OwnSl w v3 o.ins F3) (ho4 : OwnSl w v4 o.outs F4) (hnd : (F1 ++ F2 ++ F3 ++ F4).Nodup) (hlt : ∀ x, x ∈ F1 ++ F2 ++ F3 ++ F4 → x < w.heap.size) (h0 : 0 ≤ k) (hm : k + ((MchMach.ctV o : Nat) : Int) ≤ 1099511627776) :
    Calls Try.prog 30 #[.agg #[v1, .int .i64 o.pc, v2, .int .i64 o.save, .bool o.lets, .bool o.waits, .int .i64 o.halt, v3, v4, .int .i64 o.count], .int .i64 k] w fun e w' => e = .returned (.int .i64 (k + ((MchMach.ctV o : Nat) : Int))) ∧ OwnSl w' v1 (Mk.put o.regs (k)) F1 ∧ OwnSl w' v2 (Mk.put o.mem (k + ((Mk.ct o.regs : Nat) : Int))) F2 ∧ OwnSl w' v3 (Mk.put o.ins (k + ((Mk.ct o.regs : Nat) : Int) + ((Mk.ct o.mem : Nat) : Int))) F3 ∧ OwnSl w' v4 (Mk.put o.outs (k + ((Mk.ct o.regs : Nat) : Int) + ((Mk.ct o.mem : Nat) : Int) + ((Mk.ct o.ins : Nat) : Int))) F4 ∧ Chg (F1 ++ F2 ++ F3 ++ F4) w w' := by
  have hct : MchMach.ctV o = Mk.ct o.regs + Mk.ct o.mem + Mk.ct o.ins + Mk.ct o.outs := rfl
  have hn := hnd
  simp only [List.nodup_append, List.mem_append] at hn
  obtain ⟨⟨⟨nd1, nd2, dj2⟩, nd3, dj3⟩, nd4, dj4⟩ := hn
  have lt1 : ∀ x, x ∈ F1 → x < w.heap.size := fun x hx => hlt x (by simp [hx])
  have lt2 : ∀ x, x ∈ F2 → x < w.heap.size := fun x hx => hlt x (by simp [hx])
  have lt3 : ∀ x, x ∈ F3 → x < w.heap.size := fun x hx => hlt x (by simp [hx])
  have lt4 : ∀ x, x ∈ F4 → x < w.heap.size := fun x hx => hlt x (by simp [hx])
  obtain ⟨Av1, cv1, rfl, -, -⟩ := ho1.sl.form
  obtain ⟨Av2, cv2, rfl, -, -⟩ := ho2.sl.form
  obtain ⟨Av3, cv3, rfl, -, -⟩ := ho3.sl.form
  obtain ⟨Av4, cv4, rfl, -, -⟩ := ho4.sl.form
  go_enter Try.func30, Try.ntmps30
  go_wp2_with fail
  refine (mark_ListInt o.regs _ F1 _ _ (ho1.stay (fun x hx => by have hq := lt1 x hx; exact Ext.heap (Ext.auto) hq)) nd1 (fun x hx => by have := lt1 x hx; first | omega | (simp; omega)) (by omega) (by omega)).mono ?_
  rintro e w1 ⟨rfl, hp1, hh1⟩
  have hs1 := hh1.size
  try simp at hs1
  have hc1 := fun o => hh1.cell (x := w.heap.size) (o := o) (by first | omega | (simp; try omega)) (fun hx => Nat.lt_irrefl _ (hlt _ (by simp [hx])))
  go_wp2_with fail
  refine (mark_ListInt o.mem _ F2 _ _ (ho2.stay (fun x hx => by have hq := lt2 x hx; rw [hh1.heap (by first | omega | (simp; omega)) (fun hy => dj2 x hy x hx rfl)]; exact Ext.heap (Ext.auto) hq)) nd2 (fun x hx => by have := lt2 x hx; first | omega | (simp; omega)) (by omega) (by omega)).mono ?_
  rintro e w2 ⟨rfl, hp2, hh2⟩
  have hs2 := hh2.size
  try simp at hs2
  have hc2 := fun o => hh2.cell (x := w.heap.size) (o := o) (by first | omega | (simp; try omega)) (fun hx => Nat.lt_irrefl _ (hlt _ (by simp [hx])))
  go_wp2_with fail
  refine (mark_ListInt o.ins _ F3 _ _ (ho3.stay (fun x hx => by have hq := lt3 x hx; rw [hh2.heap (by first | omega | (simp; omega)) (fun hy => dj3 x (Or.inr hy) x hx rfl)]; rw [hh1.heap (by first | omega | (simp; omega)) (fun hy => dj3 x (Or.inl hy) x hx rfl)]; exact Ext.heap (Ext.auto) hq)) nd3 (fun x hx => by have := lt3 x hx; first | omega | (simp; omega)) (by omega) (by omega)).mono ?_
  rintro e w3 ⟨rfl, hp3, hh3⟩
  have hs3 := hh3.size
  try simp at hs3
  have hc3 := fun o => hh3.cell (x := w.heap.size) (o := o) (by first | omega | (simp; try omega)) (fun hx => Nat.lt_irrefl _ (hlt _ (by simp [hx])))
  go_wp2_with fail
  refine (mark_ListInt o.outs _ F4 _ _ (ho4.stay (fun x hx => by have hq := lt4 x hx; rw [hh3.heap (by first | omega | (simp; omega)) (fun hy => dj4 x (Or.inr hy) x hx rfl)]; rw [hh2.heap (by first | omega | (simp; omega)) (fun hy => dj4 x (Or.inl (Or.inr hy)) x hx rfl)]; rw [hh1.heap (by first | omega | (simp; omega)) (fun hy => dj4 x (Or.inl (Or.inl hy)) x hx rfl)]; exact Ext.heap (Ext.auto) hq)) nd4 (fun x hx => by have := lt4 x hx; first | omega | (simp; omega)) (by omega) (by omega)).mono ?_
  rintro e w4 ⟨rfl, hp4, hh4⟩
  have hs4 := hh4.size
  try simp at hs4
  have hc4 := fun o => hh4.cell (x := w.heap.size) (o := o) (by first | omega | (simp; try omega)) (fun hx => Nat.lt_irrefl _ (hlt _ (by simp [hx])))
  have hcg : ∀ W, Ext w W → True := fun _ _ => trivial
  clear hcg
  go_wp2
  go_ret
  exact ⟨congrArg (fun z => Ending.returned (.int .i64 z)) (by omega), hp1.stay (fun x hx => by have hq := lt1 x hx; rw [hh4.heap (by first | omega | (simp; omega)) (fun hy => dj4 x (Or.inl (Or.inl hx)) x hy rfl)]; rw [hh3.heap (by first | omega | (simp; omega)) (fun hy => dj3 x (Or.inl hx) x hy rfl)]; rw [hh2.heap (by first | omega | (simp; omega)) (fun hy => dj2 x hx x hy rfl)]), hp2.stay (fun x hx => by have hq := lt2 x hx; rw [hh4.heap (by first | omega | (simp; omega)) (fun hy => dj4 x (Or.inl (Or.inr hx)) x hy rfl)]; rw [hh3.heap (by first | omega | (simp; omega)) (fun hy => dj3 x (Or.inr hx) x hy rfl)]), hp3.stay (fun x hx => by have hq := lt3 x hx; rw [hh4.heap (by first | omega | (simp; omega)) (fun hy => dj4 x (Or.inr hx) x hy rfl)]), hp4, (Chg.trans (Chg.trans (Chg.trans (Chg.trans (Chg.of_ext (Ext.auto) _) (hh1.mono (fun x hx => by simp [hx]))) (hh2.mono (fun x hx => by simp [hx]))) (hh3.mono (fun x hx => by simp [hx]))) (hh4.mono (fun x hx => by simp [hx])))⟩

set_option maxHeartbeats 2000000 in
theorem held_MchMach (o : MchMach) (v1 v2 v3 v4 : Value) (k : Int) (w : World) (h1 : Sl w (Old w) v1 (Mk.put o.regs (k))) (h2 : Sl w (Old w) v2 (Mk.put o.mem (k + ((Mk.ct o.regs : Nat) : Int)))) (h3 : Sl w (Old w) v3 (Mk.put o.ins (k + ((Mk.ct o.regs : Nat) : Int) + ((Mk.ct o.mem : Nat) : Int)))) (h4 : Sl w (Old w) v4 (Mk.put o.outs (k + ((Mk.ct o.regs : Nat) : Int) + ((Mk.ct o.mem : Nat) : Int) + ((Mk.ct o.ins : Nat) : Int)))) (h0 : 0 ≤ k) (hm : k + ((MchMach.ctV o : Nat) : Int) ≤ 1099511627776) :
    Calls Try.prog 31 #[.agg #[v1, .int .i64 o.pc, v2, .int .i64 o.save, .bool o.lets, .bool o.waits, .int .i64 o.halt, v3, v4, .int .i64 o.count], .int .i64 k] w fun e w' => e = .returned (.int .i64 (k + ((MchMach.ctV o : Nat) : Int))) ∧ Ext w w' := by
  have hct : MchMach.ctV o = Mk.ct o.regs + Mk.ct o.mem + Mk.ct o.ins + Mk.ct o.outs := rfl
  obtain ⟨Av1, cv1, e1, -, -⟩ := h1.form
  rw [mk_length] at e1
  subst e1
  obtain ⟨Av2, cv2, e2, -, -⟩ := h2.form
  rw [mk_length] at e2
  subst e2
  obtain ⟨Av3, cv3, e3, -, -⟩ := h3.form
  rw [mk_length] at e3
  subst e3
  obtain ⟨Av4, cv4, e4, -, -⟩ := h4.form
  rw [mk_length] at e4
  subst e4
  go_enter Try.func31, Try.ntmps31
  go_wp2_with fail
  refine (held_ListInt o.regs _ _ _ (h1.ext (Ext.auto)) (by omega) (by omega)).mono ?_
  rintro e w1 ⟨rfl, hx1⟩
  have hs1 := hx1.size
  try simp at hs1
  have he1 : Ext w w1 := Ext.trans (Ext.auto) hx1
  have hc1 := fun b o (hb : b < w.heap.size + 1) => hx1.cell (b := b) (o := o) (by first | omega | (simp; omega))
  have hg1 := fun b o (hb : b < w.heap.size + 1) => hx1.frozen (b := b) (o := o) (by first | omega | (simp; omega))
  go_wp2_with fail
  refine (held_ListInt o.mem _ _ _ (h2.ext (Ext.hold he1)) (by omega) (by omega)).mono ?_
  rintro e w2 ⟨rfl, hx2⟩
  have hs2 := hx2.size
  try simp at hs2
  have he2 : Ext w w2 := Ext.trans (Ext.hold he1) hx2
  have hc2 := fun b o (hb : b < w.heap.size + 1) => hx2.cell (b := b) (o := o) (by first | omega | (simp; omega))
  have hg2 := fun b o (hb : b < w.heap.size + 1) => hx2.frozen (b := b) (o := o) (by first | omega | (simp; omega))
  go_wp2_with fail
  refine (held_ListInt o.ins _ _ _ (h3.ext (Ext.hold2 he2 he1)) (by omega) (by omega)).mono ?_
  rintro e w3 ⟨rfl, hx3⟩
  have hs3 := hx3.size
  try simp at hs3
  have he3 : Ext w w3 := Ext.trans (Ext.hold2 he2 he1) hx3
  have hc3 := fun b o (hb : b < w.heap.size + 1) => hx3.cell (b := b) (o := o) (by first | omega | (simp; omega))
  have hg3 := fun b o (hb : b < w.heap.size + 1) => hx3.frozen (b := b) (o := o) (by first | omega | (simp; omega))
  go_wp2_with fail
  refine (held_ListInt o.outs _ _ _ (h4.ext (by (repeat' (first | (with_reducible exact Ext.refl _) | (with_reducible exact he3) | (with_reducible exact he2) | (with_reducible exact he1) | (with_reducible apply Ext.alloc) | (with_reducible apply Ext.drew) | (with_reducible refine Ext.setCell ?_ ?_ _))); all_goals (first | (simp; done) | (simp; omega) | omega))) (by omega) (by omega)).mono ?_
  rintro e w4 ⟨rfl, hx4⟩
  have hs4 := hx4.size
  try simp at hs4
  have he4 : Ext w w4 := Ext.trans (by (repeat' (first | (with_reducible exact Ext.refl _) | (with_reducible exact he3) | (with_reducible exact he2) | (with_reducible exact he1) | (with_reducible apply Ext.alloc) | (with_reducible apply Ext.drew) | (with_reducible refine Ext.setCell ?_ ?_ _))); all_goals (first | (simp; done) | (simp; omega) | omega)) hx4
  have hc4 := fun b o (hb : b < w.heap.size + 1) => hx4.cell (b := b) (o := o) (by first | omega | (simp; omega))
  have hg4 := fun b o (hb : b < w.heap.size + 1) => hx4.frozen (b := b) (o := o) (by first | omega | (simp; omega))
  go_wp2
  go_ret
  exact ⟨congrArg (fun z => Ending.returned (.int .i64 z)) (by omega), (by (repeat' (first | (with_reducible exact Ext.refl _) | (with_reducible exact he4) | (with_reducible exact he3) | (with_reducible exact he2) | (with_reducible exact he1) | (with_reducible apply Ext.alloc) | (with_reducible apply Ext.drew) | (with_reducible refine Ext.setCell ?_ ?_ _))); all_goals (first | (simp; done) | (simp; omega) | omega))⟩

end Go.Proofs.Yteaacelfnkiboaa
