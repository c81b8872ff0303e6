/-
  The same for structs that hold slices, and for slices of them.
-/
import Derived.Test.YtjemadbhpbbhlaaMark
namespace Go.Proofs.Ytjemadbhpbbhlaa
open Go.RowKit

set_option linter.unusedVariables false
set_option linter.unusedSimpArgs false
set_option maxRecDepth 100000

set_option maxHeartbeats 2000000 in
theorem mark_IrBlock (o : IrBlock) (v1 : Value) (F1 : List Nat) (k : Int) (w : World) (ho1 : OwnSl w v1 o.ops F1) (hnd : (F1).Nodup) (hlt : ∀ x, x ∈ F1 → x < w.heap.size) (h0 : 0 ≤ k) (hm : k + ((IrBlock.ctV o : Nat) : Int) ≤ 1099511627776) :
    Calls Try.prog 22 #[.agg #[.int .i64 o.pc, .int .i64 o.len, v1, .int .i64 o.fin, .int .i64 o.x, .int .i64 o.y, .int .i64 o.k], .int .i64 k] w fun e w' => e = .returned (.int .i64 (k + ((IrBlock.ctV o : Nat) : Int))) ∧ OwnSl w' v1 (Mk.put o.ops (k)) F1 ∧ Chg (F1) w w' := by
  have hct : IrBlock.ctV o = Mk.ct o.ops := rfl
  have nd1 := hnd
  have lt1 : ∀ x, x ∈ F1 → x < w.heap.size := fun x hx => hlt x (by simp [hx])
  obtain ⟨Av1, cv1, rfl, -, -⟩ := ho1.sl.form
  go_enter Try.func22, Try.ntmps22
  go_wp2_with fail
  refine (mark_ListIrOp o.ops _ F1 _ _ (ho1.stay (fun x hx => by have hq := lt1 x hx; exact Ext.heap (Ext.auto) hq)) nd1 (fun x hx => by have := lt1 x hx; first | omega | (simp; omega)) (by omega) (by omega)).mono ?_
  rintro e w1 ⟨rfl, hp1, hh1⟩
  have hs1 := hh1.size
  try simp at hs1
  have hc1 := fun o => hh1.cell (x := w.heap.size) (o := o) (by first | omega | (simp; try omega)) (fun hx => Nat.lt_irrefl _ (hlt _ (by exact hx)))
  have hcg : ∀ W, Ext w W → True := fun _ _ => trivial
  clear hcg
  go_wp2
  go_ret
  exact ⟨congrArg (fun z => Ending.returned (.int .i64 z)) (by omega), hp1, (Chg.trans (Chg.of_ext (Ext.auto) _) (hh1.mono (fun x hx => by exact hx)))⟩

set_option maxHeartbeats 2000000 in
theorem held_IrBlock (o : IrBlock) (v1 : Value) (k : Int) (w : World) (h1 : Sl w (Old w) v1 (Mk.put o.ops (k))) (h0 : 0 ≤ k) (hm : k + ((IrBlock.ctV o : Nat) : Int) ≤ 1099511627776) :
    Calls Try.prog 28 #[.agg #[.int .i64 o.pc, .int .i64 o.len, v1, .int .i64 o.fin, .int .i64 o.x, .int .i64 o.y, .int .i64 o.k], .int .i64 k] w fun e w' => e = .returned (.int .i64 (k + ((IrBlock.ctV o : Nat) : Int))) ∧ Ext w w' := by
  have hct : IrBlock.ctV o = Mk.ct o.ops := rfl
  obtain ⟨Av1, cv1, e1, -, -⟩ := h1.form
  rw [mk_length] at e1
  subst e1
  go_enter Try.func28, Try.ntmps28
  go_wp2_with fail
  refine (held_ListIrOp o.ops _ _ _ (h1.ext (Ext.auto)) (by omega) (by omega)).mono ?_
  rintro e w1 ⟨rfl, hx1⟩
  have hs1 := hx1.size
  try simp at hs1
  have he1 : Ext w w1 := Ext.trans (Ext.auto) hx1
  have hc1 := fun b o (hb : b < w.heap.size + 1) => hx1.cell (b := b) (o := o) (by first | omega | (simp; omega))
  have hg1 := fun b o (hb : b < w.heap.size + 1) => hx1.frozen (b := b) (o := o) (by first | omega | (simp; omega))
  go_wp2
  go_ret
  exact ⟨congrArg (fun z => Ending.returned (.int .i64 z)) (by omega), (Ext.hold he1)⟩

set_option maxHeartbeats 2000000 in
theorem mark_CacEntry (o : CacEntry) (v1 v2 : Value) (F1 F2 : List Nat) (k : Int) (w : World) (ho1 : OwnSl w v1 o.words F1) (ho2 : OwnSl w v2 o.block.ops F2) (hnd : (F1 ++ F2).Nodup) (hlt : ∀ x, x ∈ F1 ++ F2 → x < w.heap.size) (h0 : 0 ≤ k) (hm : k + ((CacEntry.ctV o : Nat) : Int) ≤ 1099511627776) :
    Calls Try.prog 58 #[.agg #[v1, .int .i64 o.block.pc, .int .i64 o.block.len, v2, .int .i64 o.block.fin, .int .i64 o.block.x, .int .i64 o.block.y, .int .i64 o.block.k], .int .i64 k] w fun e w' => e = .returned (.int .i64 (k + ((CacEntry.ctV o : Nat) : Int))) ∧ OwnSl w' v1 (Mk.put o.words (k)) F1 ∧ OwnSl w' v2 (Mk.put o.block.ops (k + ((Mk.ct o.words : Nat) : Int))) F2 ∧ Chg (F1 ++ F2) w w' := by
  have hct : CacEntry.ctV o = Mk.ct o.words + Mk.ct o.block.ops := rfl
  have hct_block : IrBlock.ctV o.block = Mk.ct o.block.ops := rfl
  have hn := hnd
  simp only [List.nodup_append, List.mem_append] at hn
  obtain ⟨nd1, nd2, dj2⟩ := hn
  have lt1 : ∀ x, x ∈ F1 → x < w.heap.size := fun x hx => hlt x (by simp [hx])
  have lt2 : ∀ x, x ∈ F2 → x < w.heap.size := fun x hx => hlt x (by simp [hx])
  obtain ⟨Av1, cv1, rfl, -, -⟩ := ho1.sl.form
  obtain ⟨Av2, cv2, rfl, -, -⟩ := ho2.sl.form
  go_enter Try.func58, Try.ntmps58
  go_wp2_with fail
  refine (mark_ListInt o.words _ F1 _ _ (ho1.stay (fun x hx => by have hq := lt1 x hx; exact Ext.heap (Ext.auto) hq)) nd1 (fun x hx => by have := lt1 x hx; first | omega | (simp; omega)) (by omega) (by omega)).mono ?_
  rintro e w1 ⟨rfl, hp1, hh1⟩
  have hs1 := hh1.size
  try simp at hs1
  have hc1 := fun o => hh1.cell (x := w.heap.size) (o := o) (by first | omega | (simp; try omega)) (fun hx => Nat.lt_irrefl _ (hlt _ (by simp [hx])))
  go_wp2_with fail
  refine (mark_IrBlock o.block _ F2 _ _ (ho2.stay (fun x hx => by have hq := lt2 x hx; rw [hh1.heap (by first | omega | (simp; omega)) (fun hy => dj2 x hy x hx rfl)]; exact Ext.heap (Ext.auto) hq)) nd2 (fun x hx => by have := lt2 x hx; first | omega | (simp; omega)) (by omega) (by omega)).mono ?_
  rintro e w2 ⟨rfl, hp2, hh2⟩
  have hs2 := hh2.size
  try simp at hs2
  have hc2 := fun o => hh2.cell (x := w.heap.size) (o := o) (by first | omega | (simp; try omega)) (fun hx => Nat.lt_irrefl _ (hlt _ (by simp [hx])))
  have hcg : ∀ W, Ext w W → True := fun _ _ => trivial
  clear hcg
  go_wp2
  go_ret
  exact ⟨congrArg (fun z => Ending.returned (.int .i64 z)) (by omega), hp1.stay (fun x hx => by have hq := lt1 x hx; rw [hh2.heap (by first | omega | (simp; omega)) (fun hy => dj2 x hx x hy rfl)]), hp2, (Chg.trans (Chg.trans (Chg.of_ext (Ext.auto) _) (hh1.mono (fun x hx => by simp [hx]))) (hh2.mono (fun x hx => by simp [hx])))⟩

set_option maxHeartbeats 2000000 in
theorem mark_ListCacEntry (l : List CacEntry) (v : Value) (F : List Nat) (k : Int) (w : World) (h : OwnSl w v l F) (hnd : F.Nodup) (hlt : ∀ x, x ∈ F → x < w.heap.size) (h0 : 0 ≤ k) (hm : k + ((Mk.ct l : Nat) : Int) ≤ 1099511627776) :
    Calls Try.prog 57 #[v, .int .i64 k] w fun e w' => e = .returned (.int .i64 (k + ((Mk.ct l : Nat) : Int))) ∧ OwnSl w' v (Mk.put l k) F ∧ Chg F w w' := by
  obtain ⟨A, c, rfl, hl, hmx⟩ := h.sl.form
  unfold maxLen at hmx
  go_enter Try.func57, Try.ntmps57
  go_wp2
  go_loopw [1, 5] (fun r i wr => ∃ j : Nat, j ≤ l.length ∧ i = .int .i64 j ∧ r = .int .i64 (k + ((ctTo l j : Nat) : Int)) ∧ OwnSl wr (.slice A l.length c) (mkTo l k j) F ∧ Chg F w wr) (fun _ i _ => l.length - (intOf i).toNat)
  case atStart => exact ⟨0, by omega, rfl, by rw [ctTo_zero]; exact congrArg (Value.int .i64) (by omega), by rw [mkTo_zero]; exact h, Chg.refl _ _⟩
  case round =>
    obtain ⟨j, hj, rfl, rfl, ho, hch⟩ := hrel
    by_cases hlt' : j < l.length
    · have hcs := ctTo_succ l j hlt'
      have hcl := ctTo_le l (j + 1) (by omega)
      have HM := hide (mkTo_succ l k j hlt')
      obtain ⟨b, off, c', Fi, us, e, hown, hc, hnd', hsub, hfz, hclose⟩ := ho.focus hnd (i := j) (by rw [mkTo_length]; exact hlt')
      simp only [mkTo_getElem l k j hlt'] at hown
      injection e with ea eb ec
      subst ea
      have HC := hide hclose
      clear hclose ec eb
      obtain ⟨v1, v2, F1, F2, rfl, hk0, ho1, ho2, rfl⟩ := hown
      have e0 : wr.cell? ⟨b, off + j * 8, none⟩ = some (v1) := hc 0 _ rfl
      have e1 : wr.cell? ⟨b, off + j * 8 + 1, none⟩ = some (.int .i64 (l[j].block.pc)) := hc 1 _ rfl
      have e2 : wr.cell? ⟨b, off + j * 8 + 2, none⟩ = some (.int .i64 (l[j].block.len)) := hc 2 _ rfl
      have e3 : wr.cell? ⟨b, off + j * 8 + 3, none⟩ = some (v2) := hc 3 _ rfl
      have e4 : wr.cell? ⟨b, off + j * 8 + 4, none⟩ = some (.int .i64 (l[j].block.fin)) := hc 4 _ rfl
      have e5 : wr.cell? ⟨b, off + j * 8 + 5, none⟩ = some (.int .i64 (l[j].block.x)) := hc 5 _ rfl
      have e6 : wr.cell? ⟨b, off + j * 8 + 6, none⟩ = some (.int .i64 (l[j].block.y)) := hc 6 _ rfl
      have e7 : wr.cell? ⟨b, off + j * 8 + 7, none⟩ = some (.int .i64 (l[j].block.k)) := hc 7 _ rfl
      have hbF : b ∈ F := hsub b List.mem_cons_self
      have hbl : b < wr.heap.size := Nat.lt_of_lt_of_le (hlt b hbF) hch.size
      have z0 : (0 : Int) ≤ (j : Int) := by omega
      have z1 : (j : Int) < (l.length : Int) := by omega
      have hn := hnd'
      simp only [List.nodup_cons, List.nodup_append, List.mem_append, not_or] at hn
      obtain ⟨⟨nb1, nb2⟩, ⟨nd1, nd2, dj2⟩⟩ := hn
      have lt1 : ∀ x, x ∈ F1 → x < wr.heap.size := fun x hx => Nat.lt_of_lt_of_le (hlt x (hsub x (List.mem_cons_of_mem _ (by simp [hx])))) hch.size
      have lt2 : ∀ x, x ∈ F2 → x < wr.heap.size := fun x hx => Nat.lt_of_lt_of_le (hlt x (hsub x (List.mem_cons_of_mem _ (by simp [hx])))) hch.size
      obtain ⟨Av1, cv1, rfl, -, -⟩ := ho1.sl.form
      obtain ⟨Av2, cv2, rfl, -, -⟩ := ho2.sl.form
      have hct : Mk.ct l[j] = Mk.ct l[j].words + 1 + 1 + Mk.ct l[j].block.ops + 1 + 1 + 1 + 1 := rfl
      have hR0 : RowV b (off + j * 8) [.slice Av1 (l[j].words).length cv1, .int .i64 (l[j].block.pc), .int .i64 (l[j].block.len), .slice Av2 (l[j].block.ops).length cv2, .int .i64 (l[j].block.fin), .int .i64 (l[j].block.x), .int .i64 (l[j].block.y), .int .i64 (l[j].block.k)] wr := RowV.mk_ (by intro m u hu; match m, hu with | 0, hu => (have h := hu; injection h with h; subst h; exact e0) | 1, hu => (have h := hu; injection h with h; subst h; exact e1) | 2, hu => (have h := hu; injection h with h; subst h; exact e2) | 3, hu => (have h := hu; injection h with h; subst h; exact e3) | 4, hu => (have h := hu; injection h with h; subst h; exact e4) | 5, hu => (have h := hu; injection h with h; subst h; exact e5) | 6, hu => (have h := hu; injection h with h; subst h; exact e6) | 7, hu => (have h := hu; injection h with h; subst h; exact e7) | m + 8, hu => simp at hu)
      clear hc
      go_wp2_with fail
      refine (mark_ListInt l[j].words _ F1 _ _ ho1 nd1 (fun x hx => by have := lt1 x hx; first | omega | (simp; omega)) (by omega) (by omega)).mono ?_
      rintro e w1 ⟨rfl, hp1, hh1⟩
      have hs1 := hh1.size
      try simp at hs1
      have hL1 : Loc b (off + j * 8) (off + j * 8 + 8) (F1) wr w1 := Loc.chg (Loc.mono (G := []) (by (repeat' (first | (with_reducible refine Loc.set ?_ ?_ ?_ _) | (with_reducible exact Loc.refl _ _ _ _ _))); all_goals (first | omega | (simp; omega))) (by intro x hx; simp_all)) hh1 (by intro x hx; simp [hx]) nb1 hbl
      have hc1 := fun o => hh1.cell (x := b) (o := o) (by first | omega | (simp; omega)) nb1
      have hg1 : ∀ o, w1.frozen? ⟨b, o, none⟩ = false := fun o => (hL1.frozen b o hbl).trans (hfz o)
      have hR1 : RowV b (off + j * 8) [.slice Av1 (l[j].words).length cv1, .int .i64 (l[j].block.pc), .int .i64 (l[j].block.len), .slice Av2 (l[j].block.ops).length cv2, .int .i64 (l[j].block.fin), .int .i64 (l[j].block.x), .int .i64 (l[j].block.y), .int .i64 (l[j].block.k)] w1 := RowV.chg hR0 hh1 nb1 (by first | omega | (simp; omega))
      go_wp2_with fail
      refine (mark_ListIrOp l[j].block.ops _ F2 _ _ (ho2.stay (fun x hx => Loc.block (b := b) (lo := off + j * 8) (hi := off + j * 8 + 8) (G := F1) (by (repeat' (first | (with_reducible exact hL1) | (with_reducible refine Loc.set ?_ ?_ ?_ _) | (with_reducible exact Loc.refl _ _ _ _ _))); all_goals (first | omega | (simp; omega))) x (lt2 x hx) (fun e => nb2 (e ▸ hx)) (by first | exact (fun hy => dj2 x hy x hx rfl) | (simp only [List.mem_append, not_or]; exact (fun hy => dj2 x hy x hx rfl))))) nd2 (fun x hx => by have := lt2 x hx; first | omega | (simp; omega)) (by omega) (by omega)).mono ?_
      rintro e w2 ⟨rfl, hp2, hh2⟩
      have hs2 := hh2.size
      try simp at hs2
      have hL2 : Loc b (off + j * 8) (off + j * 8 + 8) (F1 ++ F2) wr w2 := Loc.chg (Loc.mono (G := F1) (by (repeat' (first | (with_reducible exact hL1) | (with_reducible refine Loc.set ?_ ?_ ?_ _) | (with_reducible exact Loc.refl _ _ _ _ _))); all_goals (first | omega | (simp; omega))) (by intro x hx; simp_all)) hh2 (by intro x hx; simp [hx]) nb2 hbl
      have hc2 := fun o => hh2.cell (x := b) (o := o) (by first | omega | (simp; omega)) nb2
      have hg2 : ∀ o, w2.frozen? ⟨b, o, none⟩ = false := fun o => (hL2.frozen b o hbl).trans (hfz o)
      have hR2 : RowV b (off + j * 8) [.slice Av1 (l[j].words).length cv1, .int .i64 (k + ((ctTo l j : Nat) : Int) + ((Mk.ct l[j].words : Nat) : Int)), .int .i64 (k + ((ctTo l j : Nat) : Int) + ((Mk.ct l[j].words : Nat) : Int) + 1), .slice Av2 (l[j].block.ops).length cv2, .int .i64 (l[j].block.fin), .int .i64 (l[j].block.x), .int .i64 (l[j].block.y), .int .i64 (l[j].block.k)] w2 := RowV.chg (RowV.set (m := 2) (RowV.set (m := 1) hR1 (by simp) rfl (by first | rfl | omega)) (by simp) rfl (by first | rfl | omega)) hh2 nb2 (by first | omega | (simp; omega))
      clear ho
      go_wp2
      go_roundw
      case rel =>
        refine ⟨j + 1, by omega, by go_num, congrArg (Value.int .i64) (by omega), ?_, ?_⟩
        · rw [HM.out]
          refine HC.out _ (Mk.put l[j] (k + ((ctTo l j : Nat) : Int))) [.slice Av1 (l[j].words).length cv1, .int .i64 (k + ((ctTo l j : Nat) : Int) + ((Mk.ct l[j].words : Nat) : Int)), .int .i64 (k + ((ctTo l j : Nat) : Int) + ((Mk.ct l[j].words : Nat) : Int) + 1), .slice Av2 (l[j].block.ops).length cv2, .int .i64 (k + ((ctTo l j : Nat) : Int) + ((Mk.ct l[j].words : Nat) : Int) + 1 + 1 + ((Mk.ct l[j].block.ops : Nat) : Int)), .int .i64 (k + ((ctTo l j : Nat) : Int) + ((Mk.ct l[j].words : Nat) : Int) + 1 + 1 + ((Mk.ct l[j].block.ops : Nat) : Int) + 1), .int .i64 (k + ((ctTo l j : Nat) : Int) + ((Mk.ct l[j].words : Nat) : Int) + 1 + 1 + ((Mk.ct l[j].block.ops : Nat) : Int) + 1 + 1), .int .i64 (k + ((ctTo l j : Nat) : Int) + ((Mk.ct l[j].words : Nat) : Int) + 1 + 1 + ((Mk.ct l[j].block.ops : Nat) : Int) + 1 + 1 + 1)] ⟨_, _, F1, F2, rfl, by unfold CacEntry.Ok Fits; simp only [Mk.put]; omega, (hp1.stay (fun x hx => by (repeat (first | rw [heap_set _ _ _ _ (by rintro rfl; exact nb1 hx)] | rw [hh2.heap (by have := lt1 x hx; first | omega | (simp; omega)) (fun hy => dj2 x hx x hy rfl)])))), (hp2.stay (fun x hx => by (repeat (first | rw [heap_set _ _ _ _ (by rintro rfl; exact nb2 hx)])))), rfl⟩ (RowV.out (off := off) (i := j * 8) (RowV.set (m := 7) (RowV.set (m := 6) (RowV.set (m := 5) (RowV.set (m := 4) hR2 (by simp) rfl (by first | rfl | omega)) (by simp) rfl (by first | rfl | omega)) (by simp) rfl (by first | rfl | omega)) (by simp) rfl (by first | rfl | omega))) (fun o ho => Loc.cells (G := F1 ++ F2) (lo := off + j * 8) (hi := off + j * 8 + 8) (by (repeat' (first | (with_reducible exact hL2) | (with_reducible refine Loc.set ?_ ?_ ?_ _) | (with_reducible exact Loc.refl _ _ _ _ _))); all_goals (first | omega | (simp; omega))) o ho) (fun o => ((Loc.frozen (G := F1 ++ F2) (lo := off + j * 8) (hi := off + j * 8 + 8) (by (repeat' (first | (with_reducible exact hL2) | (with_reducible refine Loc.set ?_ ?_ ?_ _) | (with_reducible exact Loc.refl _ _ _ _ _))); all_goals (first | omega | (simp; omega)))) b o hbl).trans (hfz o)) (fun x hx hn => Loc.block (G := F1 ++ F2) (lo := off + j * 8) (hi := off + j * 8 + 8) (by (repeat' (first | (with_reducible exact hL2) | (with_reducible refine Loc.set ?_ ?_ ?_ _) | (with_reducible exact Loc.refl _ _ _ _ _))); all_goals (first | omega | (simp; omega))) x (Nat.lt_of_lt_of_le (hlt x hx) hch.size) (fun e => hn (e ▸ List.mem_cons_self)) (fun hm => hn (List.mem_cons_of_mem _ hm)))
        · exact hch.trans ((Loc.toChg (b := b) (lo := off + j * 8) (hi := off + j * 8 + 8) (G := F1 ++ F2) (by (repeat' (first | (with_reducible exact hL2) | (with_reducible refine Loc.set ?_ ?_ ?_ _) | (with_reducible exact Loc.refl _ _ _ _ _))); all_goals (first | omega | (simp; omega)))).mono (fun x hx => hsub x (by simpa using hx)))
      case measure => simp [intOf]; omega
    · obtain rfl : j = l.length := by omega
      go_wp2
      go_ret
      exact ⟨rfl, ho, hch⟩

set_option maxHeartbeats 2000000 in
theorem held_ListCacEntry (l : List CacEntry) (v : Value) (k : Int) (w : World) (h : Sl w (Old w) v (Mk.put l k)) (h0 : 0 ≤ k) (hm : k + ((Mk.ct l : Nat) : Int) ≤ 1099511627776) :
    Calls Try.prog 59 #[v, .int .i64 k] w fun e w' => e = .returned (.int .i64 (k + ((Mk.ct l : Nat) : Int))) ∧ Ext w w' := by
  obtain ⟨A, c, e, hl, hmx⟩ := h.form
  rw [mk_length] at e hl
  subst e
  unfold maxLen at hmx
  go_enter Try.func59, Try.ntmps59
  go_wp2
  go_loopw [1, 5] (fun r i wr => ∃ j : Nat, j ≤ l.length ∧ i = .int .i64 j ∧ r = .int .i64 (k + ((ctTo l j : Nat) : Int)) ∧ Ext w wr) (fun _ i _ => l.length - (intOf i).toNat)
  case atStart => exact ⟨0, by omega, rfl, by rw [ctTo_zero]; exact congrArg (Value.int .i64) (by omega), Ext.refl _⟩
  case round =>
    obtain ⟨j, hj, rfl, rfl, he⟩ := hrel
    by_cases hlt' : j < l.length
    · have hcs := ctTo_succ l j hlt'
      have hcl := ctTo_le l (j + 1) (by omega)
      have hmj : (Mk.put l k)[j]'(by rw [mk_length]; exact hlt') = Mk.put l[j] (k + ((ctTo l j : Nat) : Int)) := by
        have := mk_get l k j hlt'
        rw [List.getElem?_eq_getElem (by rw [mk_length]; exact hlt')] at this
        injection this
      obtain ⟨b, off, v1, v2, rfl, hbo, hk0, hv1, hv2, e0, e1, e2, e3, e4, e5, e6, e7⟩ := at_CacEntry (h.ext he) (i := j) (by rw [mk_length]; exact hlt')
      rw [hmj] at hv1 hv2 e1 e2 e4 e5 e6 e7
      have hbl : b < wr.heap.size := hbo
      replace hv1 : Sl wr (Old wr) v1 (Mk.put l[j].words (k + ((ctTo l j : Nat) : Int))) := hv1
      replace e0 : wr.cell? ⟨b, off + j * 8, none⟩ = some v1 := e0
      replace e1 : wr.cell? ⟨b, off + j * 8 + 1, none⟩ = some (.int .i64 (k + ((ctTo l j : Nat) : Int) + ((Mk.ct l[j].words : Nat) : Int))) := e1
      replace e2 : wr.cell? ⟨b, off + j * 8 + 2, none⟩ = some (.int .i64 (k + ((ctTo l j : Nat) : Int) + ((Mk.ct l[j].words : Nat) : Int) + 1)) := e2
      replace hv2 : Sl wr (Old wr) v2 (Mk.put l[j].block.ops (k + ((ctTo l j : Nat) : Int) + ((Mk.ct l[j].words : Nat) : Int) + 1 + 1)) := hv2
      replace e3 : wr.cell? ⟨b, off + j * 8 + 3, none⟩ = some v2 := e3
      replace e4 : wr.cell? ⟨b, off + j * 8 + 4, none⟩ = some (.int .i64 (k + ((ctTo l j : Nat) : Int) + ((Mk.ct l[j].words : Nat) : Int) + 1 + 1 + ((Mk.ct l[j].block.ops : Nat) : Int))) := e4
      replace e5 : wr.cell? ⟨b, off + j * 8 + 5, none⟩ = some (.int .i64 (k + ((ctTo l j : Nat) : Int) + ((Mk.ct l[j].words : Nat) : Int) + 1 + 1 + ((Mk.ct l[j].block.ops : Nat) : Int) + 1)) := e5
      replace e6 : wr.cell? ⟨b, off + j * 8 + 6, none⟩ = some (.int .i64 (k + ((ctTo l j : Nat) : Int) + ((Mk.ct l[j].words : Nat) : Int) + 1 + 1 + ((Mk.ct l[j].block.ops : Nat) : Int) + 1 + 1)) := e6
      replace e7 : wr.cell? ⟨b, off + j * 8 + 7, none⟩ = some (.int .i64 (k + ((ctTo l j : Nat) : Int) + ((Mk.ct l[j].words : Nat) : Int) + 1 + 1 + ((Mk.ct l[j].block.ops : Nat) : Int) + 1 + 1 + 1)) := e7
      obtain ⟨Av1, cv1, rfl, -, -⟩ := hv1.form
      obtain ⟨Av2, cv2, rfl, -, -⟩ := hv2.form
      have z0 : (0 : Int) ≤ (j : Int) := by omega
      have z1 : (j : Int) < (l.length : Int) := by omega
      have hct : Mk.ct l[j] = Mk.ct l[j].words + 1 + 1 + Mk.ct l[j].block.ops + 1 + 1 + 1 + 1 := rfl
      clear hmj hk0
      go_wp2_with fail
      refine (held_ListInt l[j].words _ _ _ (hv1.ext (Ext.auto)) (by omega) (by omega)).mono ?_
      rintro e w1 ⟨rfl, hx1⟩
      have hs1 := hx1.size
      try simp at hs1
      have hr1 : Ext wr w1 := Ext.trans (Ext.auto) hx1
      have hc1 := fun o => hx1.cell (b := b) (o := o) (by first | omega | (simp; omega))
      go_wp2_with fail
      refine (held_ListIrOp l[j].block.ops _ _ _ (hv2.ext (Ext.hold hr1)) (by omega) (by omega)).mono ?_
      rintro e w2 ⟨rfl, hx2⟩
      have hs2 := hx2.size
      try simp at hs2
      have hr2 : Ext wr w2 := Ext.trans (Ext.hold hr1) hx2
      have hc2 := fun o => hx2.cell (b := b) (o := o) (by first | omega | (simp; omega))
      go_wp2
      go_roundw
      case rel => exact ⟨j + 1, by omega, by go_num, congrArg (Value.int .i64) (by omega), he.trans hr2⟩
      case measure => simp [intOf]; omega
    · obtain rfl : j = l.length := by omega
      go_wp2
      go_ret
      exact ⟨rfl, he⟩

set_option maxHeartbeats 2000000 in
theorem mark_CerPair (o : CerPair) (v1 v2 : Value) (F1 F2 : List Nat) (k : Int) (w : World) (ho1 : OwnSl w v1 o.base.ops F1) (ho2 : OwnSl w v2 o.made.ops F2) (hnd : (F1 ++ F2).Nodup) (hlt : ∀ x, x ∈ F1 ++ F2 → x < w.heap.size) (h0 : 0 ≤ k) (hm : k + ((CerPair.ctV o : Nat) : Int) ≤ 1099511627776) :
    Calls Try.prog 43 #[.agg #[.int .i64 o.base.pc, .int .i64 o.base.len, v1, .int .i64 o.base.fin, .int .i64 o.base.x, .int .i64 o.base.y, .int .i64 o.base.k, .int .i64 o.made.pc, .int .i64 o.made.len, v2, .int .i64 o.made.fin, .int .i64 o.made.x, .int .i64 o.made.y, .int .i64 o.made.k], .int .i64 k] w fun e w' => e = .returned (.int .i64 (k + ((CerPair.ctV o : Nat) : Int))) ∧ OwnSl w' v1 (Mk.put o.base.ops (k)) F1 ∧ OwnSl w' v2 (Mk.put o.made.ops (k + ((Mk.ct o.base.ops : Nat) : Int))) F2 ∧ Chg (F1 ++ F2) w w' := by
  have hct : CerPair.ctV o = Mk.ct o.base.ops + Mk.ct o.made.ops := rfl
  have hct_base : IrBlock.ctV o.base = Mk.ct o.base.ops := rfl
  have hct_made : IrBlock.ctV o.made = Mk.ct o.made.ops := rfl
  have hn := hnd
  simp only [List.nodup_append, List.mem_append] at hn
  obtain ⟨nd1, nd2, dj2⟩ := hn
  have lt1 : ∀ x, x ∈ F1 → x < w.heap.size := fun x hx => hlt x (by simp [hx])
  have lt2 : ∀ x, x ∈ F2 → x < w.heap.size := fun x hx => hlt x (by simp [hx])
  obtain ⟨Av1, cv1, rfl, -, -⟩ := ho1.sl.form
  obtain ⟨Av2, cv2, rfl, -, -⟩ := ho2.sl.form
  go_enter Try.func43, Try.ntmps43
  go_wp2_with fail
  refine (mark_IrBlock o.base _ F1 _ _ (ho1.stay (fun x hx => by have hq := lt1 x hx; exact Ext.heap (Ext.auto) hq)) nd1 (fun x hx => by have := lt1 x hx; first | omega | (simp; omega)) (by omega) (by omega)).mono ?_
  rintro e w1 ⟨rfl, hp1, hh1⟩
  have hs1 := hh1.size
  try simp at hs1
  have hc1 := fun o => hh1.cell (x := w.heap.size) (o := o) (by first | omega | (simp; try omega)) (fun hx => Nat.lt_irrefl _ (hlt _ (by simp [hx])))
  go_wp2_with fail
  refine (mark_IrBlock o.made _ F2 _ _ (ho2.stay (fun x hx => by have hq := lt2 x hx; rw [hh1.heap (by first | omega | (simp; omega)) (fun hy => dj2 x hy x hx rfl)]; exact Ext.heap (Ext.auto) hq)) nd2 (fun x hx => by have := lt2 x hx; first | omega | (simp; omega)) (by omega) (by omega)).mono ?_
  rintro e w2 ⟨rfl, hp2, hh2⟩
  have hs2 := hh2.size
  try simp at hs2
  have hc2 := fun o => hh2.cell (x := w.heap.size) (o := o) (by first | omega | (simp; try omega)) (fun hx => Nat.lt_irrefl _ (hlt _ (by simp [hx])))
  have hcg : ∀ W, Ext w W → True := fun _ _ => trivial
  clear hcg
  go_wp2
  go_ret
  exact ⟨congrArg (fun z => Ending.returned (.int .i64 z)) (by omega), hp1.stay (fun x hx => by have hq := lt1 x hx; rw [hh2.heap (by first | omega | (simp; omega)) (fun hy => dj2 x hx x hy rfl)]), hp2, (Chg.trans (Chg.trans (Chg.of_ext (Ext.auto) _) (hh1.mono (fun x hx => by simp [hx]))) (hh2.mono (fun x hx => by simp [hx])))⟩

set_option maxHeartbeats 2000000 in
theorem mark_ListCerPair (l : List CerPair) (v : Value) (F : List Nat) (k : Int) (w : World) (h : OwnSl w v l F) (hnd : F.Nodup) (hlt : ∀ x, x ∈ F → x < w.heap.size) (h0 : 0 ≤ k) (hm : k + ((Mk.ct l : Nat) : Int) ≤ 1099511627776) :
    Calls Try.prog 42 #[v, .int .i64 k] w fun e w' => e = .returned (.int .i64 (k + ((Mk.ct l : Nat) : Int))) ∧ OwnSl w' v (Mk.put l k) F ∧ Chg F w w' := by
  obtain ⟨A, c, rfl, hl, hmx⟩ := h.sl.form
  unfold maxLen at hmx
  go_enter Try.func42, Try.ntmps42
  go_wp2
  go_loopw [1, 5] (fun r i wr => ∃ j : Nat, j ≤ l.length ∧ i = .int .i64 j ∧ r = .int .i64 (k + ((ctTo l j : Nat) : Int)) ∧ OwnSl wr (.slice A l.length c) (mkTo l k j) F ∧ Chg F w wr) (fun _ i _ => l.length - (intOf i).toNat)
  case atStart => exact ⟨0, by omega, rfl, by rw [ctTo_zero]; exact congrArg (Value.int .i64) (by omega), by rw [mkTo_zero]; exact h, Chg.refl _ _⟩
  case round =>
    obtain ⟨j, hj, rfl, rfl, ho, hch⟩ := hrel
    by_cases hlt' : j < l.length
    · have hcs := ctTo_succ l j hlt'
      have hcl := ctTo_le l (j + 1) (by omega)
      have HM := hide (mkTo_succ l k j hlt')
      obtain ⟨b, off, c', Fi, us, e, hown, hc, hnd', hsub, hfz, hclose⟩ := ho.focus hnd (i := j) (by rw [mkTo_length]; exact hlt')
      simp only [mkTo_getElem l k j hlt'] at hown
      injection e with ea eb ec
      subst ea
      have HC := hide hclose
      clear hclose ec eb
      obtain ⟨v1, v2, F1, F2, rfl, hk0, ho1, ho2, rfl⟩ := hown
      have e0 : wr.cell? ⟨b, off + j * 14, none⟩ = some (.int .i64 (l[j].base.pc)) := hc 0 _ rfl
      have e1 : wr.cell? ⟨b, off + j * 14 + 1, none⟩ = some (.int .i64 (l[j].base.len)) := hc 1 _ rfl
      have e2 : wr.cell? ⟨b, off + j * 14 + 2, none⟩ = some (v1) := hc 2 _ rfl
      have e3 : wr.cell? ⟨b, off + j * 14 + 3, none⟩ = some (.int .i64 (l[j].base.fin)) := hc 3 _ rfl
      have e4 : wr.cell? ⟨b, off + j * 14 + 4, none⟩ = some (.int .i64 (l[j].base.x)) := hc 4 _ rfl
      have e5 : wr.cell? ⟨b, off + j * 14 + 5, none⟩ = some (.int .i64 (l[j].base.y)) := hc 5 _ rfl
      have e6 : wr.cell? ⟨b, off + j * 14 + 6, none⟩ = some (.int .i64 (l[j].base.k)) := hc 6 _ rfl
      have e7 : wr.cell? ⟨b, off + j * 14 + 7, none⟩ = some (.int .i64 (l[j].made.pc)) := hc 7 _ rfl
      have e8 : wr.cell? ⟨b, off + j * 14 + 8, none⟩ = some (.int .i64 (l[j].made.len)) := hc 8 _ rfl
      have e9 : wr.cell? ⟨b, off + j * 14 + 9, none⟩ = some (v2) := hc 9 _ rfl
      have e10 : wr.cell? ⟨b, off + j * 14 + 10, none⟩ = some (.int .i64 (l[j].made.fin)) := hc 10 _ rfl
      have e11 : wr.cell? ⟨b, off + j * 14 + 11, none⟩ = some (.int .i64 (l[j].made.x)) := hc 11 _ rfl
      have e12 : wr.cell? ⟨b, off + j * 14 + 12, none⟩ = some (.int .i64 (l[j].made.y)) := hc 12 _ rfl
      have e13 : wr.cell? ⟨b, off + j * 14 + 13, none⟩ = some (.int .i64 (l[j].made.k)) := hc 13 _ rfl
      have hbF : b ∈ F := hsub b List.mem_cons_self
      have hbl : b < wr.heap.size := Nat.lt_of_lt_of_le (hlt b hbF) hch.size
      have z0 : (0 : Int) ≤ (j : Int) := by omega
      have z1 : (j : Int) < (l.length : Int) := by omega
      have hn := hnd'
      simp only [List.nodup_cons, List.nodup_append, List.mem_append, not_or] at hn
      obtain ⟨⟨nb1, nb2⟩, ⟨nd1, nd2, dj2⟩⟩ := hn
      have lt1 : ∀ x, x ∈ F1 → x < wr.heap.size := fun x hx => Nat.lt_of_lt_of_le (hlt x (hsub x (List.mem_cons_of_mem _ (by simp [hx])))) hch.size
      have lt2 : ∀ x, x ∈ F2 → x < wr.heap.size := fun x hx => Nat.lt_of_lt_of_le (hlt x (hsub x (List.mem_cons_of_mem _ (by simp [hx])))) hch.size
      obtain ⟨Av1, cv1, rfl, -, -⟩ := ho1.sl.form
      obtain ⟨Av2, cv2, rfl, -, -⟩ := ho2.sl.form
      have hct : Mk.ct l[j] = 1 + 1 + Mk.ct l[j].base.ops + 1 + 1 + 1 + 1 + 1 + 1 + Mk.ct l[j].made.ops + 1 + 1 + 1 + 1 := rfl
      have hR0 : RowV b (off + j * 14) [.int .i64 (l[j].base.pc), .int .i64 (l[j].base.len), .slice Av1 (l[j].base.ops).length cv1, .int .i64 (l[j].base.fin), .int .i64 (l[j].base.x), .int .i64 (l[j].base.y), .int .i64 (l[j].base.k), .int .i64 (l[j].made.pc), .int .i64 (l[j].made.len), .slice Av2 (l[j].made.ops).length cv2, .int .i64 (l[j].made.fin), .int .i64 (l[j].made.x), .int .i64 (l[j].made.y), .int .i64 (l[j].made.k)] wr := RowV.mk_ (by intro m u hu; match m, hu with | 0, hu => (have h := hu; injection h with h; subst h; exact e0) | 1, hu => (have h := hu; injection h with h; subst h; exact e1) | 2, hu => (have h := hu; injection h with h; subst h; exact e2) | 3, hu => (have h := hu; injection h with h; subst h; exact e3) | 4, hu => (have h := hu; injection h with h; subst h; exact e4) | 5, hu => (have h := hu; injection h with h; subst h; exact e5) | 6, hu => (have h := hu; injection h with h; subst h; exact e6) | 7, hu => (have h := hu; injection h with h; subst h; exact e7) | 8, hu => (have h := hu; injection h with h; subst h; exact e8) | 9, hu => (have h := hu; injection h with h; subst h; exact e9) | 10, hu => (have h := hu; injection h with h; subst h; exact e10) | 11, hu => (have h := hu; injection h with h; subst h; exact e11) | 12, hu => (have h := hu; injection h with h; subst h; exact e12) | 13, hu => (have h := hu; injection h with h; subst h; exact e13) | m + 14, hu => simp at hu)
      clear hc
      go_wp2_with fail
      refine (mark_ListIrOp l[j].base.ops _ F1 _ _ (ho1.stay (fun x hx => Loc.block (b := b) (lo := off + j * 14) (hi := off + j * 14 + 14) (G := []) (by (repeat' (first | (with_reducible refine Loc.set ?_ ?_ ?_ _) | (with_reducible exact Loc.refl _ _ _ _ _))); all_goals (first | omega | (simp; omega))) x (lt1 x hx) (fun e => nb1 (e ▸ hx)) (by simp))) nd1 (fun x hx => by have := lt1 x hx; first | omega | (simp; omega)) (by omega) (by omega)).mono ?_
      rintro e w1 ⟨rfl, hp1, hh1⟩
      have hs1 := hh1.size
      try simp at hs1
      have hL1 : Loc b (off + j * 14) (off + j * 14 + 14) (F1) wr w1 := Loc.chg (Loc.mono (G := []) (by (repeat' (first | (with_reducible refine Loc.set ?_ ?_ ?_ _) | (with_reducible exact Loc.refl _ _ _ _ _))); all_goals (first | omega | (simp; omega))) (by intro x hx; simp_all)) hh1 (by intro x hx; simp [hx]) nb1 hbl
      have hc1 := fun o => hh1.cell (x := b) (o := o) (by first | omega | (simp; omega)) nb1
      have hg1 : ∀ o, w1.frozen? ⟨b, o, none⟩ = false := fun o => (hL1.frozen b o hbl).trans (hfz o)
      have hR1 : RowV b (off + j * 14) [.int .i64 (k + ((ctTo l j : Nat) : Int)), .int .i64 (k + ((ctTo l j : Nat) : Int) + 1), .slice Av1 (l[j].base.ops).length cv1, .int .i64 (l[j].base.fin), .int .i64 (l[j].base.x), .int .i64 (l[j].base.y), .int .i64 (l[j].base.k), .int .i64 (l[j].made.pc), .int .i64 (l[j].made.len), .slice Av2 (l[j].made.ops).length cv2, .int .i64 (l[j].made.fin), .int .i64 (l[j].made.x), .int .i64 (l[j].made.y), .int .i64 (l[j].made.k)] w1 := RowV.chg (RowV.set (m := 1) (RowV.set (m := 0) hR0 (by simp) rfl (by first | rfl | omega)) (by simp) rfl (by first | rfl | omega)) hh1 nb1 (by first | omega | (simp; omega))
      go_wp2_with fail
      refine (mark_ListIrOp l[j].made.ops _ F2 _ _ (ho2.stay (fun x hx => Loc.block (b := b) (lo := off + j * 14) (hi := off + j * 14 + 14) (G := F1) (by (repeat' (first | (with_reducible exact hL1) | (with_reducible refine Loc.set ?_ ?_ ?_ _) | (with_reducible exact Loc.refl _ _ _ _ _))); all_goals (first | omega | (simp; omega))) x (lt2 x hx) (fun e => nb2 (e ▸ hx)) (by first | exact (fun hy => dj2 x hy x hx rfl) | (simp only [List.mem_append, not_or]; exact (fun hy => dj2 x hy x hx rfl))))) nd2 (fun x hx => by have := lt2 x hx; first | omega | (simp; omega)) (by omega) (by omega)).mono ?_
      rintro e w2 ⟨rfl, hp2, hh2⟩
      have hs2 := hh2.size
      try simp at hs2
      have hL2 : Loc b (off + j * 14) (off + j * 14 + 14) (F1 ++ F2) wr w2 := Loc.chg (Loc.mono (G := F1) (by (repeat' (first | (with_reducible exact hL1) | (with_reducible refine Loc.set ?_ ?_ ?_ _) | (with_reducible exact Loc.refl _ _ _ _ _))); all_goals (first | omega | (simp; omega))) (by intro x hx; simp_all)) hh2 (by intro x hx; simp [hx]) nb2 hbl
      have hc2 := fun o => hh2.cell (x := b) (o := o) (by first | omega | (simp; omega)) nb2
      have hg2 : ∀ o, w2.frozen? ⟨b, o, none⟩ = false := fun o => (hL2.frozen b o hbl).trans (hfz o)
      have hR2 : RowV b (off + j * 14) [.int .i64 (k + ((ctTo l j : Nat) : Int)), .int .i64 (k + ((ctTo l j : Nat) : Int) + 1), .slice Av1 (l[j].base.ops).length cv1, .int .i64 (k + ((ctTo l j : Nat) : Int) + 1 + 1 + ((Mk.ct l[j].base.ops : Nat) : Int)), .int .i64 (k + ((ctTo l j : Nat) : Int) + 1 + 1 + ((Mk.ct l[j].base.ops : Nat) : Int) + 1), .int .i64 (k + ((ctTo l j : Nat) : Int) + 1 + 1 + ((Mk.ct l[j].base.ops : Nat) : Int) + 1 + 1), .int .i64 (k + ((ctTo l j : Nat) : Int) + 1 + 1 + ((Mk.ct l[j].base.ops : Nat) : Int) + 1 + 1 + 1), .int .i64 (k + ((ctTo l j : Nat) : Int) + 1 + 1 + ((Mk.ct l[j].base.ops : Nat) : Int) + 1 + 1 + 1 + 1), .int .i64 (k + ((ctTo l j : Nat) : Int) + 1 + 1 + ((Mk.ct l[j].base.ops : Nat) : Int) + 1 + 1 + 1 + 1 + 1), .slice Av2 (l[j].made.ops).length cv2, .int .i64 (l[j].made.fin), .int .i64 (l[j].made.x), .int .i64 (l[j].made.y), .int .i64 (l[j].made.k)] w2 := RowV.chg (RowV.set (m := 8) (RowV.set (m := 7) (RowV.set (m := 6) (RowV.set (m := 5) (RowV.set (m := 4) (RowV.set (m := 3) hR1 (by simp) rfl (by first | rfl | omega)) (by simp) rfl (by first | rfl | omega)) (by simp) rfl (by first | rfl | omega)) (by simp) rfl (by first | rfl | omega)) (by simp) rfl (by first | rfl | omega)) (by simp) rfl (by first | rfl | omega)) hh2 nb2 (by first | omega | (simp; omega))
      clear ho
      go_wp2
      go_roundw
      case rel =>
        refine ⟨j + 1, by omega, by go_num, congrArg (Value.int .i64) (by omega), ?_, ?_⟩
        · rw [HM.out]
          refine HC.out _ (Mk.put l[j] (k + ((ctTo l j : Nat) : Int))) [.int .i64 (k + ((ctTo l j : Nat) : Int)), .int .i64 (k + ((ctTo l j : Nat) : Int) + 1), .slice Av1 (l[j].base.ops).length cv1, .int .i64 (k + ((ctTo l j : Nat) : Int) + 1 + 1 + ((Mk.ct l[j].base.ops : Nat) : Int)), .int .i64 (k + ((ctTo l j : Nat) : Int) + 1 + 1 + ((Mk.ct l[j].base.ops : Nat) : Int) + 1), .int .i64 (k + ((ctTo l j : Nat) : Int) + 1 + 1 + ((Mk.ct l[j].base.ops : Nat) : Int) + 1 + 1), .int .i64 (k + ((ctTo l j : Nat) : Int) + 1 + 1 + ((Mk.ct l[j].base.ops : Nat) : Int) + 1 + 1 + 1), .int .i64 (k + ((ctTo l j : Nat) : Int) + 1 + 1 + ((Mk.ct l[j].base.ops : Nat) : Int) + 1 + 1 + 1 + 1), .int .i64 (k + ((ctTo l j : Nat) : Int) + 1 + 1 + ((Mk.ct l[j].base.ops : Nat) : Int) + 1 + 1 + 1 + 1 + 1), .slice Av2 (l[j].made.ops).length cv2, .int .i64 (k + ((ctTo l j : Nat) : Int) + 1 + 1 + ((Mk.ct l[j].base.ops : Nat) : Int) + 1 + 1 + 1 + 1 + 1 + 1 + ((Mk.ct l[j].made.ops : Nat) : Int)), .int .i64 (k + ((ctTo l j : Nat) : Int) + 1 + 1 + ((Mk.ct l[j].base.ops : Nat) : Int) + 1 + 1 + 1 + 1 + 1 + 1 + ((Mk.ct l[j].made.ops : Nat) : Int) + 1), .int .i64 (k + ((ctTo l j : Nat) : Int) + 1 + 1 + ((Mk.ct l[j].base.ops : Nat) : Int) + 1 + 1 + 1 + 1 + 1 + 1 + ((Mk.ct l[j].made.ops : Nat) : Int) + 1 + 1), .int .i64 (k + ((ctTo l j : Nat) : Int) + 1 + 1 + ((Mk.ct l[j].base.ops : Nat) : Int) + 1 + 1 + 1 + 1 + 1 + 1 + ((Mk.ct l[j].made.ops : Nat) : Int) + 1 + 1 + 1)] ⟨_, _, F1, F2, rfl, by unfold CerPair.Ok Fits; simp only [Mk.put]; omega, (hp1.stay (fun x hx => by (repeat (first | rw [heap_set _ _ _ _ (by rintro rfl; exact nb1 hx)] | rw [hh2.heap (by have := lt1 x hx; first | omega | (simp; omega)) (fun hy => dj2 x hx x hy rfl)])))), (hp2.stay (fun x hx => by (repeat (first | rw [heap_set _ _ _ _ (by rintro rfl; exact nb2 hx)])))), rfl⟩ (RowV.out (off := off) (i := j * 14) (RowV.set (m := 13) (RowV.set (m := 12) (RowV.set (m := 11) (RowV.set (m := 10) hR2 (by simp) rfl (by first | rfl | omega)) (by simp) rfl (by first | rfl | omega)) (by simp) rfl (by first | rfl | omega)) (by simp) rfl (by first | rfl | omega))) (fun o ho => Loc.cells (G := F1 ++ F2) (lo := off + j * 14) (hi := off + j * 14 + 14) (by (repeat' (first | (with_reducible exact hL2) | (with_reducible refine Loc.set ?_ ?_ ?_ _) | (with_reducible exact Loc.refl _ _ _ _ _))); all_goals (first | omega | (simp; omega))) o ho) (fun o => ((Loc.frozen (G := F1 ++ F2) (lo := off + j * 14) (hi := off + j * 14 + 14) (by (repeat' (first | (with_reducible exact hL2) | (with_reducible refine Loc.set ?_ ?_ ?_ _) | (with_reducible exact Loc.refl _ _ _ _ _))); all_goals (first | omega | (simp; omega)))) b o hbl).trans (hfz o)) (fun x hx hn => Loc.block (G := F1 ++ F2) (lo := off + j * 14) (hi := off + j * 14 + 14) (by (repeat' (first | (with_reducible exact hL2) | (with_reducible refine Loc.set ?_ ?_ ?_ _) | (with_reducible exact Loc.refl _ _ _ _ _))); all_goals (first | omega | (simp; omega))) x (Nat.lt_of_lt_of_le (hlt x hx) hch.size) (fun e => hn (e ▸ List.mem_cons_self)) (fun hm => hn (List.mem_cons_of_mem _ hm)))
        · exact hch.trans ((Loc.toChg (b := b) (lo := off + j * 14) (hi := off + j * 14 + 14) (G := F1 ++ F2) (by (repeat' (first | (with_reducible exact hL2) | (with_reducible refine Loc.set ?_ ?_ ?_ _) | (with_reducible exact Loc.refl _ _ _ _ _))); all_goals (first | omega | (simp; omega)))).mono (fun x hx => hsub x (by simpa using hx)))
      case measure => simp [intOf]; omega
    · obtain rfl : j = l.length := by omega
      go_wp2
      go_ret
      exact ⟨rfl, ho, hch⟩

set_option maxHeartbeats 2000000 in
theorem held_ListCerPair (l : List CerPair) (v : Value) (k : Int) (w : World) (h : Sl w (Old w) v (Mk.put l k)) (h0 : 0 ≤ k) (hm : k + ((Mk.ct l : Nat) : Int) ≤ 1099511627776) :
    Calls Try.prog 44 #[v, .int .i64 k] w fun e w' => e = .returned (.int .i64 (k + ((Mk.ct l : Nat) : Int))) ∧ Ext w w' := by
  obtain ⟨A, c, e, hl, hmx⟩ := h.form
  rw [mk_length] at e hl
  subst e
  unfold maxLen at hmx
  go_enter Try.func44, Try.ntmps44
  go_wp2
  go_loopw [1, 5] (fun r i wr => ∃ j : Nat, j ≤ l.length ∧ i = .int .i64 j ∧ r = .int .i64 (k + ((ctTo l j : Nat) : Int)) ∧ Ext w wr) (fun _ i _ => l.length - (intOf i).toNat)
  case atStart => exact ⟨0, by omega, rfl, by rw [ctTo_zero]; exact congrArg (Value.int .i64) (by omega), Ext.refl _⟩
  case round =>
    obtain ⟨j, hj, rfl, rfl, he⟩ := hrel
    by_cases hlt' : j < l.length
    · have hcs := ctTo_succ l j hlt'
      have hcl := ctTo_le l (j + 1) (by omega)
      have hmj : (Mk.put l k)[j]'(by rw [mk_length]; exact hlt') = Mk.put l[j] (k + ((ctTo l j : Nat) : Int)) := by
        have := mk_get l k j hlt'
        rw [List.getElem?_eq_getElem (by rw [mk_length]; exact hlt')] at this
        injection this
      obtain ⟨b, off, v1, v2, rfl, hbo, hk0, hv1, hv2, e0, e1, e2, e3, e4, e5, e6, e7, e8, e9, e10, e11, e12, e13⟩ := at_CerPair (h.ext he) (i := j) (by rw [mk_length]; exact hlt')
      rw [hmj] at hv1 hv2 e0 e1 e3 e4 e5 e6 e7 e8 e10 e11 e12 e13
      have hbl : b < wr.heap.size := hbo
      replace e0 : wr.cell? ⟨b, off + j * 14, none⟩ = some (.int .i64 (k + ((ctTo l j : Nat) : Int))) := e0
      replace e1 : wr.cell? ⟨b, off + j * 14 + 1, none⟩ = some (.int .i64 (k + ((ctTo l j : Nat) : Int) + 1)) := e1
      replace hv1 : Sl wr (Old wr) v1 (Mk.put l[j].base.ops (k + ((ctTo l j : Nat) : Int) + 1 + 1)) := hv1
      replace e2 : wr.cell? ⟨b, off + j * 14 + 2, none⟩ = some v1 := e2
      replace e3 : wr.cell? ⟨b, off + j * 14 + 3, none⟩ = some (.int .i64 (k + ((ctTo l j : Nat) : Int) + 1 + 1 + ((Mk.ct l[j].base.ops : Nat) : Int))) := e3
      replace e4 : wr.cell? ⟨b, off + j * 14 + 4, none⟩ = some (.int .i64 (k + ((ctTo l j : Nat) : Int) + 1 + 1 + ((Mk.ct l[j].base.ops : Nat) : Int) + 1)) := e4
      replace e5 : wr.cell? ⟨b, off + j * 14 + 5, none⟩ = some (.int .i64 (k + ((ctTo l j : Nat) : Int) + 1 + 1 + ((Mk.ct l[j].base.ops : Nat) : Int) + 1 + 1)) := e5
      replace e6 : wr.cell? ⟨b, off + j * 14 + 6, none⟩ = some (.int .i64 (k + ((ctTo l j : Nat) : Int) + 1 + 1 + ((Mk.ct l[j].base.ops : Nat) : Int) + 1 + 1 + 1)) := e6
      replace e7 : wr.cell? ⟨b, off + j * 14 + 7, none⟩ = some (.int .i64 (k + ((ctTo l j : Nat) : Int) + 1 + 1 + ((Mk.ct l[j].base.ops : Nat) : Int) + 1 + 1 + 1 + 1)) := e7
      replace e8 : wr.cell? ⟨b, off + j * 14 + 8, none⟩ = some (.int .i64 (k + ((ctTo l j : Nat) : Int) + 1 + 1 + ((Mk.ct l[j].base.ops : Nat) : Int) + 1 + 1 + 1 + 1 + 1)) := e8
      replace hv2 : Sl wr (Old wr) v2 (Mk.put l[j].made.ops (k + ((ctTo l j : Nat) : Int) + 1 + 1 + ((Mk.ct l[j].base.ops : Nat) : Int) + 1 + 1 + 1 + 1 + 1 + 1)) := hv2
      replace e9 : wr.cell? ⟨b, off + j * 14 + 9, none⟩ = some v2 := e9
      replace e10 : wr.cell? ⟨b, off + j * 14 + 10, none⟩ = some (.int .i64 (k + ((ctTo l j : Nat) : Int) + 1 + 1 + ((Mk.ct l[j].base.ops : Nat) : Int) + 1 + 1 + 1 + 1 + 1 + 1 + ((Mk.ct l[j].made.ops : Nat) : Int))) := e10
      replace e11 : wr.cell? ⟨b, off + j * 14 + 11, none⟩ = some (.int .i64 (k + ((ctTo l j : Nat) : Int) + 1 + 1 + ((Mk.ct l[j].base.ops : Nat) : Int) + 1 + 1 + 1 + 1 + 1 + 1 + ((Mk.ct l[j].made.ops : Nat) : Int) + 1)) := e11
      replace e12 : wr.cell? ⟨b, off + j * 14 + 12, none⟩ = some (.int .i64 (k + ((ctTo l j : Nat) : Int) + 1 + 1 + ((Mk.ct l[j].base.ops : Nat) : Int) + 1 + 1 + 1 + 1 + 1 + 1 + ((Mk.ct l[j].made.ops : Nat) : Int) + 1 + 1)) := e12
      replace e13 : wr.cell? ⟨b, off + j * 14 + 13, none⟩ = some (.int .i64 (k + ((ctTo l j : Nat) : Int) + 1 + 1 + ((Mk.ct l[j].base.ops : Nat) : Int) + 1 + 1 + 1 + 1 + 1 + 1 + ((Mk.ct l[j].made.ops : Nat) : Int) + 1 + 1 + 1)) := e13
      obtain ⟨Av1, cv1, rfl, -, -⟩ := hv1.form
      obtain ⟨Av2, cv2, rfl, -, -⟩ := hv2.form
      have z0 : (0 : Int) ≤ (j : Int) := by omega
      have z1 : (j : Int) < (l.length : Int) := by omega
      have hct : Mk.ct l[j] = 1 + 1 + Mk.ct l[j].base.ops + 1 + 1 + 1 + 1 + 1 + 1 + Mk.ct l[j].made.ops + 1 + 1 + 1 + 1 := rfl
      clear hmj hk0
      go_wp2_with fail
      refine (held_ListIrOp l[j].base.ops _ _ _ (hv1.ext (Ext.auto)) (by omega) (by omega)).mono ?_
      rintro e w1 ⟨rfl, hx1⟩
      have hs1 := hx1.size
      try simp at hs1
      have hr1 : Ext wr w1 := Ext.trans (Ext.auto) hx1
      have hc1 := fun o => hx1.cell (b := b) (o := o) (by first | omega | (simp; omega))
      go_wp2_with fail
      refine (held_ListIrOp l[j].made.ops _ _ _ (hv2.ext (Ext.hold hr1)) (by omega) (by omega)).mono ?_
      rintro e w2 ⟨rfl, hx2⟩
      have hs2 := hx2.size
      try simp at hs2
      have hr2 : Ext wr w2 := Ext.trans (Ext.hold hr1) hx2
      have hc2 := fun o => hx2.cell (b := b) (o := o) (by first | omega | (simp; omega))
      go_wp2
      go_roundw
      case rel => exact ⟨j + 1, by omega, by go_num, congrArg (Value.int .i64) (by omega), he.trans hr2⟩
      case measure => simp [intOf]; omega
    · obtain rfl : j = l.length := by omega
      go_wp2
      go_ret
      exact ⟨rfl, he⟩

end Go.Proofs.Ytjemadbhpbbhlaa
