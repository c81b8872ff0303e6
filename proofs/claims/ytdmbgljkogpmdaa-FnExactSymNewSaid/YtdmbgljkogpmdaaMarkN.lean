/-
  The same for structs that hold slices, and for slices of them.
-/
import Derived.Test.YtdmbgljkogpmdaaMark
namespace Go.Proofs.Ytdmbgljkogpmdaa
open Go.RowKit

set_option linter.unusedVariables false
set_option linter.unusedSimpArgs false
set_option maxRecDepth 100000

set_option maxHeartbeats 2000000 in
theorem mark_ListTrmMono (l : List TrmMono) (v : Value) (F : List Nat) (k : Int) (w : World) (h : OwnSl w v l F) (hnd : F.Nodup) (hlt : ∀ x, x ∈ F → x < w.heap.size) (h0 : 0 ≤ k) (hm : k + ((Mk.ct l : Nat) : Int) ≤ 1099511627776) :
    Calls Try.prog 35 #[v, .int .i64 k] w fun e w' => e = .returned (.int .i64 (k + ((Mk.ct l : Nat) : Int))) ∧ OwnSl w' v (Mk.put l k) F ∧ Chg F w w' := by
  obtain ⟨A, c, rfl, hl, hmx⟩ := h.sl.form
  unfold maxLen at hmx
  go_enter Try.func35, Try.ntmps35
  go_wp2
  go_loopw [1, 5] (fun r i wr => ∃ j : Nat, j ≤ l.length ∧ i = .int .i64 j ∧ r = .int .i64 (k + ((ctTo l j : Nat) : Int)) ∧ OwnSl wr (.slice A l.length c) (mkTo l k j) F ∧ Chg F w wr) (fun _ i _ => l.length - (intOf i).toNat)
  case atStart => exact ⟨0, by omega, rfl, by rw [ctTo_zero]; exact congrArg (Value.int .i64) (by omega), by rw [mkTo_zero]; exact h, Chg.refl _ _⟩
  case round =>
    obtain ⟨j, hj, rfl, rfl, ho, hch⟩ := hrel
    by_cases hlt' : j < l.length
    · have hcs := ctTo_succ l j hlt'
      have hcl := ctTo_le l (j + 1) (by omega)
      have HM := hide (mkTo_succ l k j hlt')
      obtain ⟨b, off, c', Fi, us, e, hown, hc, hnd', hsub, hfz, hclose⟩ := ho.focus hnd (i := j) (by rw [mkTo_length]; exact hlt')
      simp only [mkTo_getElem l k j hlt'] at hown
      injection e with ea eb ec
      subst ea
      have HC := hide hclose
      clear hclose ec eb
      obtain ⟨v1, rfl, hk0, ho1⟩ := hown
      have e0 : wr.cell? ⟨b, off + j * 2, none⟩ = some (.int .i64 (l[j].coef)) := hc 0 _ rfl
      have e1 : wr.cell? ⟨b, off + j * 2 + 1, none⟩ = some (v1) := hc 1 _ rfl
      have hbF : b ∈ F := hsub b List.mem_cons_self
      have hbl : b < wr.heap.size := Nat.lt_of_lt_of_le (hlt b hbF) hch.size
      have z0 : (0 : Int) ≤ (j : Int) := by omega
      have z1 : (j : Int) < (l.length : Int) := by omega
      have hn := hnd'
      simp only [List.nodup_cons, List.nodup_append, List.mem_append, not_or] at hn
      obtain ⟨nb1, nd1⟩ := hn
      have lt1 : ∀ x, x ∈ Fi → x < wr.heap.size := fun x hx => Nat.lt_of_lt_of_le (hlt x (hsub x (List.mem_cons_of_mem _ (by simp [hx])))) hch.size
      obtain ⟨Av1, cv1, rfl, -, -⟩ := ho1.sl.form
      have hct : Mk.ct l[j] = 1 + Mk.ct l[j].atoms := rfl
      have hR0 : RowV b (off + j * 2) [.int .i64 (l[j].coef), .slice Av1 (l[j].atoms).length cv1] wr := RowV.mk_ (by intro m u hu; match m, hu with | 0, hu => (have h := hu; injection h with h; subst h; exact e0) | 1, hu => (have h := hu; injection h with h; subst h; exact e1) | m + 2, hu => simp at hu)
      clear hc
      go_wp2_with fail
      refine (mark_ListInt l[j].atoms _ Fi _ _ (ho1.stay (fun x hx => Loc.block (b := b) (lo := off + j * 2) (hi := off + j * 2 + 2) (G := []) (by (repeat' (first | (with_reducible refine Loc.set ?_ ?_ ?_ _) | (with_reducible exact Loc.refl _ _ _ _ _))); all_goals (first | omega | (simp; omega))) x (lt1 x hx) (fun e => nb1 (e ▸ hx)) (by simp))) nd1 (fun x hx => by have := lt1 x hx; first | omega | (simp; omega)) (by omega) (by omega)).mono ?_
      rintro e w1 ⟨rfl, hp1, hh1⟩
      have hs1 := hh1.size
      try simp at hs1
      have hL1 : Loc b (off + j * 2) (off + j * 2 + 2) (Fi) wr w1 := Loc.chg (Loc.mono (G := []) (by (repeat' (first | (with_reducible refine Loc.set ?_ ?_ ?_ _) | (with_reducible exact Loc.refl _ _ _ _ _))); all_goals (first | omega | (simp; omega))) (by intro x hx; first | (simp_all; done) | ((try simp only [List.mem_append] at hx ⊢); (try simp only [or_assoc] at hx ⊢); rcases hx with hx | hx | hx <;> (simp [hx]; done)) | ((try simp only [List.mem_append] at hx ⊢); (try simp only [or_assoc] at hx ⊢); rcases hx with hx | hx <;> simp [hx]))) hh1 (by intro x hx; simp [hx]) nb1 hbl
      have hc1 := fun o => hh1.cell (x := b) (o := o) (by first | omega | (simp; omega)) nb1
      have hg1 : ∀ o, w1.frozen? ⟨b, o, none⟩ = false := fun o => (hL1.frozen b o hbl).trans (hfz o)
      have hR1 : RowV b (off + j * 2) [.int .i64 (k + ((ctTo l j : Nat) : Int)), .slice Av1 (l[j].atoms).length cv1] w1 := RowV.chg (RowV.set (m := 0) hR0 (by simp) rfl (by first | rfl | omega)) hh1 nb1 (by first | omega | (simp; omega))
      clear ho
      go_wp2
      go_roundw
      case rel =>
        refine ⟨j + 1, by omega, by go_num, congrArg (Value.int .i64) (by omega), ?_, ?_⟩
        · rw [HM.out]
          refine HC.out _ (Mk.put l[j] (k + ((ctTo l j : Nat) : Int))) [.int .i64 (k + ((ctTo l j : Nat) : Int)), .slice Av1 (l[j].atoms).length cv1] ⟨_, rfl, by first | (unfold TrmMono.Ok Fits; simp only [Mk.put]; omega) | exact True.intro, (hp1.stay (fun x hx => by (repeat (first | rw [heap_set _ _ _ _ (by rintro rfl; exact nb1 hx)])); (try rfl)))⟩ (RowV.out (off := off) (i := j * 2) hR1) (fun o ho => Loc.cells (G := Fi) (lo := off + j * 2) (hi := off + j * 2 + 2) (by (repeat' (first | (with_reducible exact hL1) | (with_reducible refine Loc.set ?_ ?_ ?_ _) | (with_reducible exact Loc.refl _ _ _ _ _))); all_goals (first | omega | (simp; omega))) o ho) (fun o => ((Loc.frozen (G := Fi) (lo := off + j * 2) (hi := off + j * 2 + 2) (by (repeat' (first | (with_reducible exact hL1) | (with_reducible refine Loc.set ?_ ?_ ?_ _) | (with_reducible exact Loc.refl _ _ _ _ _))); all_goals (first | omega | (simp; omega)))) b o hbl).trans (hfz o)) (fun x hx hn => Loc.block (G := Fi) (lo := off + j * 2) (hi := off + j * 2 + 2) (by (repeat' (first | (with_reducible exact hL1) | (with_reducible refine Loc.set ?_ ?_ ?_ _) | (with_reducible exact Loc.refl _ _ _ _ _))); all_goals (first | omega | (simp; omega))) x (Nat.lt_of_lt_of_le (hlt x hx) hch.size) (fun e => hn (e ▸ List.mem_cons_self)) (fun hm => hn (List.mem_cons_of_mem _ hm)))
        · exact hch.trans ((Loc.toChg (b := b) (lo := off + j * 2) (hi := off + j * 2 + 2) (G := Fi) (by (repeat' (first | (with_reducible exact hL1) | (with_reducible refine Loc.set ?_ ?_ ?_ _) | (with_reducible exact Loc.refl _ _ _ _ _))); all_goals (first | omega | (simp; omega)))).mono (fun x hx => hsub x (by simpa using hx)))
      case measure => simp [intOf]; omega
    · obtain rfl : j = l.length := by omega
      go_wp2
      go_ret
      exact ⟨rfl, ho, hch⟩

set_option maxHeartbeats 2000000 in
theorem held_ListTrmMono (l : List TrmMono) (v : Value) (k : Int) (w : World) (h : Sl w (Old w) v (Mk.put l k)) (h0 : 0 ≤ k) (hm : k + ((Mk.ct l : Nat) : Int) ≤ 1099511627776) :
    Calls Try.prog 37 #[v, .int .i64 k] w fun e w' => e = .returned (.int .i64 (k + ((Mk.ct l : Nat) : Int))) ∧ Ext w w' := by
  obtain ⟨A, c, e, hl, hmx⟩ := h.form
  rw [mk_length] at e hl
  subst e
  unfold maxLen at hmx
  go_enter Try.func37, Try.ntmps37
  go_wp2
  go_loopw [1, 5] (fun r i wr => ∃ j : Nat, j ≤ l.length ∧ i = .int .i64 j ∧ r = .int .i64 (k + ((ctTo l j : Nat) : Int)) ∧ Ext w wr) (fun _ i _ => l.length - (intOf i).toNat)
  case atStart => exact ⟨0, by omega, rfl, by rw [ctTo_zero]; exact congrArg (Value.int .i64) (by omega), Ext.refl _⟩
  case round =>
    obtain ⟨j, hj, rfl, rfl, he⟩ := hrel
    by_cases hlt' : j < l.length
    · have hcs := ctTo_succ l j hlt'
      have hcl := ctTo_le l (j + 1) (by omega)
      have hmj : (Mk.put l k)[j]'(by rw [mk_length]; exact hlt') = Mk.put l[j] (k + ((ctTo l j : Nat) : Int)) := by
        have := mk_get l k j hlt'
        rw [List.getElem?_eq_getElem (by rw [mk_length]; exact hlt')] at this
        injection this
      obtain ⟨b, off, v1, rfl, hbo, hk0, hv1, e0, e1⟩ := at_TrmMono (h.ext he) (i := j) (by rw [mk_length]; exact hlt')
      rw [hmj] at hv1 e0
      have hbl : b < wr.heap.size := hbo
      replace e0 : wr.cell? ⟨b, off + j * 2, none⟩ = some (.int .i64 (k + ((ctTo l j : Nat) : Int))) := e0
      replace hv1 : Sl wr (Old wr) v1 (Mk.put l[j].atoms (k + ((ctTo l j : Nat) : Int) + 1)) := hv1
      replace e1 : wr.cell? ⟨b, off + j * 2 + 1, none⟩ = some v1 := e1
      obtain ⟨Av1, cv1, rfl, -, -⟩ := hv1.form
      have z0 : (0 : Int) ≤ (j : Int) := by omega
      have z1 : (j : Int) < (l.length : Int) := by omega
      have hct : Mk.ct l[j] = 1 + Mk.ct l[j].atoms := rfl
      clear hmj hk0
      go_wp2_with fail
      refine (held_ListInt l[j].atoms _ _ _ (hv1.ext (Ext.auto)) (by omega) (by omega)).mono ?_
      rintro e w1 ⟨rfl, hx1⟩
      have hs1 := hx1.size
      try simp at hs1
      have hr1 : Ext wr w1 := Ext.trans (Ext.auto) hx1
      have hc1 := fun o => hx1.cell (b := b) (o := o) (by first | omega | (simp; omega))
      go_wp2
      go_roundw
      case rel => exact ⟨j + 1, by omega, by go_num, congrArg (Value.int .i64) (by omega), he.trans hr1⟩
      case measure => simp [intOf]; omega
    · obtain rfl : j = l.length := by omega
      go_wp2
      go_ret
      exact ⟨rfl, he⟩

set_option maxHeartbeats 2000000 in
theorem mark_TrmPoly (o : TrmPoly) (v1 : Value) (F1 : List Nat) (k : Int) (w : World) (ho1 : OwnSl w v1 o.monos F1) (hnd : (F1).Nodup) (hlt : ∀ x, x ∈ F1 → x < w.heap.size) (h0 : 0 ≤ k) (hm : k + ((TrmPoly.ctV o : Nat) : Int) ≤ 1099511627776) :
    Calls Try.prog 47 #[.agg #[v1], .int .i64 k] w fun e w' => e = .returned (.int .i64 (k + ((TrmPoly.ctV o : Nat) : Int))) ∧ OwnSl w' v1 (Mk.put o.monos (k)) F1 ∧ Chg (F1) w w' := by
  have hct : TrmPoly.ctV o = Mk.ct o.monos := rfl
  have nd1 := hnd
  have lt1 : ∀ x, x ∈ F1 → x < w.heap.size := fun x hx => hlt x (by simp [hx])
  obtain ⟨Av1, cv1, rfl, -, -⟩ := ho1.sl.form
  go_enter Try.func47, Try.ntmps47
  go_wp2_with fail
  refine (mark_ListTrmMono o.monos _ F1 _ _ (ho1.stay (fun x hx => by have hq := lt1 x hx; exact Ext.heap (Ext.auto) hq)) nd1 (fun x hx => by have := lt1 x hx; first | omega | (simp; omega)) (by omega) (by omega)).mono ?_
  rintro e w1 ⟨rfl, hp1, hh1⟩
  have hs1 := hh1.size
  try simp at hs1
  have hc1 := fun o => hh1.cell (x := w.heap.size) (o := o) (by first | omega | (simp; try omega)) (fun hx => Nat.lt_irrefl _ (hlt _ (by exact hx)))
  have hcg : ∀ W, Ext w W → True := fun _ _ => trivial
  clear hcg
  go_wp2
  go_ret
  exact ⟨congrArg (fun z => Ending.returned (.int .i64 z)) (by omega), hp1, (Chg.trans (Chg.of_ext (Ext.auto) _) (hh1.mono (fun x hx => by exact hx)))⟩

set_option maxHeartbeats 2000000 in
theorem held_TrmPoly (o : TrmPoly) (v1 : Value) (k : Int) (w : World) (h1 : Sl w (Old w) v1 (Mk.put o.monos (k))) (h0 : 0 ≤ k) (hm : k + ((TrmPoly.ctV o : Nat) : Int) ≤ 1099511627776) :
    Calls Try.prog 67 #[.agg #[v1], .int .i64 k] w fun e w' => e = .returned (.int .i64 (k + ((TrmPoly.ctV o : Nat) : Int))) ∧ Ext w w' := by
  have hct : TrmPoly.ctV o = Mk.ct o.monos := rfl
  obtain ⟨Av1, cv1, e1, -, -⟩ := h1.form
  rw [mk_length] at e1
  subst e1
  go_enter Try.func67, Try.ntmps67
  go_wp2_with fail
  refine (held_ListTrmMono o.monos _ _ _ (h1.ext (Ext.auto)) (by omega) (by omega)).mono ?_
  rintro e w1 ⟨rfl, hx1⟩
  have hs1 := hx1.size
  try simp at hs1
  have he1 : Ext w w1 := Ext.trans (Ext.auto) hx1
  have hc1 := fun b o (hb : b < w.heap.size + 1) => hx1.cell (b := b) (o := o) (by first | omega | (simp; omega))
  have hg1 := fun b o (hb : b < w.heap.size + 1) => hx1.frozen (b := b) (o := o) (by first | omega | (simp; omega))
  go_wp2
  go_ret
  exact ⟨congrArg (fun z => Ending.returned (.int .i64 z)) (by omega), (Ext.hold he1)⟩

set_option maxHeartbeats 2000000 in
theorem mark_ListTrmPoly (l : List TrmPoly) (v : Value) (F : List Nat) (k : Int) (w : World) (h : OwnSl w v l F) (hnd : F.Nodup) (hlt : ∀ x, x ∈ F → x < w.heap.size) (h0 : 0 ≤ k) (hm : k + ((Mk.ct l : Nat) : Int) ≤ 1099511627776) :
    Calls Try.prog 11 #[v, .int .i64 k] w fun e w' => e = .returned (.int .i64 (k + ((Mk.ct l : Nat) : Int))) ∧ OwnSl w' v (Mk.put l k) F ∧ Chg F w w' := by
  obtain ⟨A, c, rfl, hl, hmx⟩ := h.sl.form
  unfold maxLen at hmx
  go_enter Try.func11, Try.ntmps11
  go_wp2
  go_loopw [1, 5] (fun r i wr => ∃ j : Nat, j ≤ l.length ∧ i = .int .i64 j ∧ r = .int .i64 (k + ((ctTo l j : Nat) : Int)) ∧ OwnSl wr (.slice A l.length c) (mkTo l k j) F ∧ Chg F w wr) (fun _ i _ => l.length - (intOf i).toNat)
  case atStart => exact ⟨0, by omega, rfl, by rw [ctTo_zero]; exact congrArg (Value.int .i64) (by omega), by rw [mkTo_zero]; exact h, Chg.refl _ _⟩
  case round =>
    obtain ⟨j, hj, rfl, rfl, ho, hch⟩ := hrel
    by_cases hlt' : j < l.length
    · have hcs := ctTo_succ l j hlt'
      have hcl := ctTo_le l (j + 1) (by omega)
      have HM := hide (mkTo_succ l k j hlt')
      obtain ⟨b, off, c', Fi, us, e, hown, hc, hnd', hsub, hfz, hclose⟩ := ho.focus hnd (i := j) (by rw [mkTo_length]; exact hlt')
      simp only [mkTo_getElem l k j hlt'] at hown
      injection e with ea eb ec
      subst ea
      have HC := hide hclose
      clear hclose ec eb
      obtain ⟨v1, rfl, hk0, ho1⟩ := hown
      have e0 : wr.cell? ⟨b, off + j, none⟩ = some (v1) := by simpa [Rep.sz] using hc 0 _ rfl
      have hbF : b ∈ F := hsub b List.mem_cons_self
      have hbl : b < wr.heap.size := Nat.lt_of_lt_of_le (hlt b hbF) hch.size
      have z0 : (0 : Int) ≤ (j : Int) := by omega
      have z1 : (j : Int) < (l.length : Int) := by omega
      have hn := hnd'
      simp only [List.nodup_cons, List.nodup_append, List.mem_append, not_or] at hn
      obtain ⟨nb1, nd1⟩ := hn
      have lt1 : ∀ x, x ∈ Fi → x < wr.heap.size := fun x hx => Nat.lt_of_lt_of_le (hlt x (hsub x (List.mem_cons_of_mem _ (by simp [hx])))) hch.size
      obtain ⟨Av1, cv1, rfl, -, -⟩ := ho1.sl.form
      have hct : Mk.ct l[j] = Mk.ct l[j].monos := rfl
      have hR0 : RowV b (off + j) [.slice Av1 (l[j].monos).length cv1] wr := RowV.mk_ (by intro m u hu; match m, hu with | 0, hu => (have h := hu; injection h with h; subst h; exact e0) | m + 1, hu => simp at hu)
      clear hc
      go_wp2_with fail
      refine (mark_ListTrmMono l[j].monos _ Fi _ _ ho1 nd1 (fun x hx => by have := lt1 x hx; first | omega | (simp; omega)) (by omega) (by omega)).mono ?_
      rintro e w1 ⟨rfl, hp1, hh1⟩
      have hs1 := hh1.size
      try simp at hs1
      have hL1 : Loc b (off + j) (off + j + 1) (Fi) wr w1 := Loc.chg (Loc.mono (G := []) (by (repeat' (first | (with_reducible refine Loc.set ?_ ?_ ?_ _) | (with_reducible exact Loc.refl _ _ _ _ _))); all_goals (first | omega | (simp; omega))) (by intro x hx; first | (simp_all; done) | ((try simp only [List.mem_append] at hx ⊢); (try simp only [or_assoc] at hx ⊢); rcases hx with hx | hx | hx <;> (simp [hx]; done)) | ((try simp only [List.mem_append] at hx ⊢); (try simp only [or_assoc] at hx ⊢); rcases hx with hx | hx <;> simp [hx]))) hh1 (by intro x hx; simp [hx]) nb1 hbl
      have hc1 := fun o => hh1.cell (x := b) (o := o) (by first | omega | (simp; omega)) nb1
      have hg1 : ∀ o, w1.frozen? ⟨b, o, none⟩ = false := fun o => (hL1.frozen b o hbl).trans (hfz o)
      have hR1 : RowV b (off + j) [.slice Av1 (l[j].monos).length cv1] w1 := RowV.chg hR0 hh1 nb1 (by first | omega | (simp; omega))
      clear ho
      go_wp2
      go_roundw
      case rel =>
        refine ⟨j + 1, by omega, by go_num, congrArg (Value.int .i64) (by omega), ?_, ?_⟩
        · rw [HM.out]
          refine HC.out _ (Mk.put l[j] (k + ((ctTo l j : Nat) : Int))) [.slice Av1 (l[j].monos).length cv1] ⟨_, rfl, by first | (unfold TrmPoly.Ok Fits; simp only [Mk.put]; omega) | exact True.intro, (hp1.stay (fun x hx => by (repeat (first | rw [heap_set _ _ _ _ (by rintro rfl; exact nb1 hx)])); (try rfl)))⟩ (by rw [show Rep.sz TrmPoly = 1 from rfl, Nat.mul_one]; exact RowV.out (off := off) (i := j) hR1) (fun o ho => Loc.cells (G := Fi) (lo := off + j) (hi := off + j + 1) (by (repeat' (first | (with_reducible exact hL1) | (with_reducible refine Loc.set ?_ ?_ ?_ _) | (with_reducible exact Loc.refl _ _ _ _ _))); all_goals (first | omega | (simp; omega))) o (by rw [show Rep.sz TrmPoly = 1 from rfl, Nat.mul_one] at ho; exact ho)) (fun o => ((Loc.frozen (G := Fi) (lo := off + j) (hi := off + j + 1) (by (repeat' (first | (with_reducible exact hL1) | (with_reducible refine Loc.set ?_ ?_ ?_ _) | (with_reducible exact Loc.refl _ _ _ _ _))); all_goals (first | omega | (simp; omega)))) b o hbl).trans (hfz o)) (fun x hx hn => Loc.block (G := Fi) (lo := off + j) (hi := off + j + 1) (by (repeat' (first | (with_reducible exact hL1) | (with_reducible refine Loc.set ?_ ?_ ?_ _) | (with_reducible exact Loc.refl _ _ _ _ _))); all_goals (first | omega | (simp; omega))) x (Nat.lt_of_lt_of_le (hlt x hx) hch.size) (fun e => hn (e ▸ List.mem_cons_self)) (fun hm => hn (List.mem_cons_of_mem _ hm)))
        · exact hch.trans ((Loc.toChg (b := b) (lo := off + j) (hi := off + j + 1) (G := Fi) (by (repeat' (first | (with_reducible exact hL1) | (with_reducible refine Loc.set ?_ ?_ ?_ _) | (with_reducible exact Loc.refl _ _ _ _ _))); all_goals (first | omega | (simp; omega)))).mono (fun x hx => hsub x (by simpa using hx)))
      case measure => simp [intOf]; omega
    · obtain rfl : j = l.length := by omega
      go_wp2
      go_ret
      exact ⟨rfl, ho, hch⟩

set_option maxHeartbeats 2000000 in
theorem held_ListTrmPoly (l : List TrmPoly) (v : Value) (k : Int) (w : World) (h : Sl w (Old w) v (Mk.put l k)) (h0 : 0 ≤ k) (hm : k + ((Mk.ct l : Nat) : Int) ≤ 1099511627776) :
    Calls Try.prog 13 #[v, .int .i64 k] w fun e w' => e = .returned (.int .i64 (k + ((Mk.ct l : Nat) : Int))) ∧ Ext w w' := by
  obtain ⟨A, c, e, hl, hmx⟩ := h.form
  rw [mk_length] at e hl
  subst e
  unfold maxLen at hmx
  go_enter Try.func13, Try.ntmps13
  go_wp2
  go_loopw [1, 5] (fun r i wr => ∃ j : Nat, j ≤ l.length ∧ i = .int .i64 j ∧ r = .int .i64 (k + ((ctTo l j : Nat) : Int)) ∧ Ext w wr) (fun _ i _ => l.length - (intOf i).toNat)
  case atStart => exact ⟨0, by omega, rfl, by rw [ctTo_zero]; exact congrArg (Value.int .i64) (by omega), Ext.refl _⟩
  case round =>
    obtain ⟨j, hj, rfl, rfl, he⟩ := hrel
    by_cases hlt' : j < l.length
    · have hcs := ctTo_succ l j hlt'
      have hcl := ctTo_le l (j + 1) (by omega)
      have hmj : (Mk.put l k)[j]'(by rw [mk_length]; exact hlt') = Mk.put l[j] (k + ((ctTo l j : Nat) : Int)) := by
        have := mk_get l k j hlt'
        rw [List.getElem?_eq_getElem (by rw [mk_length]; exact hlt')] at this
        injection this
      obtain ⟨b, off, v1, rfl, hbo, hk0, hv1, e0⟩ := at_TrmPoly (h.ext he) (i := j) (by rw [mk_length]; exact hlt')
      rw [hmj] at hv1 
      have hbl : b < wr.heap.size := hbo
      replace hv1 : Sl wr (Old wr) v1 (Mk.put l[j].monos (k + ((ctTo l j : Nat) : Int))) := hv1
      replace e0 : wr.cell? ⟨b, off + j, none⟩ = some v1 := e0
      obtain ⟨Av1, cv1, rfl, -, -⟩ := hv1.form
      have z0 : (0 : Int) ≤ (j : Int) := by omega
      have z1 : (j : Int) < (l.length : Int) := by omega
      have hct : Mk.ct l[j] = Mk.ct l[j].monos := rfl
      clear hmj hk0
      go_wp2_with fail
      refine (held_ListTrmMono l[j].monos _ _ _ (hv1.ext (Ext.auto)) (by omega) (by omega)).mono ?_
      rintro e w1 ⟨rfl, hx1⟩
      have hs1 := hx1.size
      try simp at hs1
      have hr1 : Ext wr w1 := Ext.trans (Ext.auto) hx1
      have hc1 := fun o => hx1.cell (b := b) (o := o) (by first | omega | (simp; omega))
      go_wp2
      go_roundw
      case rel => exact ⟨j + 1, by omega, by go_num, congrArg (Value.int .i64) (by omega), he.trans hr1⟩
      case measure => simp [intOf]; omega
    · obtain rfl : j = l.length := by omega
      go_wp2
      go_ret
      exact ⟨rfl, he⟩

set_option maxHeartbeats 2000000 in
theorem mark_TabAtom (o : TabAtom) (v1 v2 : Value) (F1 F2 : List Nat) (k : Int) (w : World) (ho1 : OwnSl w v1 o.x.monos F1) (ho2 : OwnSl w v2 o.y.monos F2) (hnd : (F1 ++ F2).Nodup) (hlt : ∀ x, x ∈ F1 ++ F2 → x < w.heap.size) (h0 : 0 ≤ k) (hm : k + ((TabAtom.ctV o : Nat) : Int) ≤ 1099511627776) :
    Calls Try.prog 21 #[.agg #[.int .i64 o.kind, .int .i64 o.k, v1, v2], .int .i64 k] w fun e w' => e = .returned (.int .i64 (k + ((TabAtom.ctV o : Nat) : Int))) ∧ OwnSl w' v1 (Mk.put o.x.monos (k)) F1 ∧ OwnSl w' v2 (Mk.put o.y.monos (k + ((Mk.ct o.x.monos : Nat) : Int))) F2 ∧ Chg (F1 ++ F2) w w' := by
  have hct : TabAtom.ctV o = Mk.ct o.x.monos + Mk.ct o.y.monos := rfl
  have hct_x : TrmPoly.ctV o.x = Mk.ct o.x.monos := rfl
  have hct_y : TrmPoly.ctV o.y = Mk.ct o.y.monos := rfl
  have hn := hnd
  simp only [List.nodup_append, List.mem_append] at hn
  obtain ⟨nd1, nd2, dj2⟩ := hn
  have lt1 : ∀ x, x ∈ F1 → x < w.heap.size := fun x hx => hlt x (by simp [hx])
  have lt2 : ∀ x, x ∈ F2 → x < w.heap.size := fun x hx => hlt x (by simp [hx])
  obtain ⟨Av1, cv1, rfl, -, -⟩ := ho1.sl.form
  obtain ⟨Av2, cv2, rfl, -, -⟩ := ho2.sl.form
  go_enter Try.func21, Try.ntmps21
  go_wp2_with fail
  refine (mark_TrmPoly o.x _ F1 _ _ (ho1.stay (fun x hx => by have hq := lt1 x hx; exact Ext.heap (Ext.auto) hq)) nd1 (fun x hx => by have := lt1 x hx; first | omega | (simp; omega)) (by omega) (by omega)).mono ?_
  rintro e w1 ⟨rfl, hp1, hh1⟩
  have hs1 := hh1.size
  try simp at hs1
  have hc1 := fun o => hh1.cell (x := w.heap.size) (o := o) (by first | omega | (simp; try omega)) (fun hx => Nat.lt_irrefl _ (hlt _ (by simp [hx])))
  go_wp2_with fail
  refine (mark_TrmPoly o.y _ F2 _ _ (ho2.stay (fun x hx => by have hq := lt2 x hx; rw [hh1.heap (by first | omega | (simp; omega)) (fun hy => dj2 x hy x hx rfl)]; exact Ext.heap (Ext.auto) hq)) nd2 (fun x hx => by have := lt2 x hx; first | omega | (simp; omega)) (by omega) (by omega)).mono ?_
  rintro e w2 ⟨rfl, hp2, hh2⟩
  have hs2 := hh2.size
  try simp at hs2
  have hc2 := fun o => hh2.cell (x := w.heap.size) (o := o) (by first | omega | (simp; try omega)) (fun hx => Nat.lt_irrefl _ (hlt _ (by simp [hx])))
  have hcg : ∀ W, Ext w W → True := fun _ _ => trivial
  clear hcg
  go_wp2
  go_ret
  exact ⟨congrArg (fun z => Ending.returned (.int .i64 z)) (by omega), hp1.stay (fun x hx => by have hq := lt1 x hx; rw [hh2.heap (by first | omega | (simp; omega)) (fun hy => dj2 x hx x hy rfl)]), hp2, (Chg.trans (Chg.trans (Chg.of_ext (Ext.auto) _) (hh1.mono (fun x hx => by simp [hx]))) (hh2.mono (fun x hx => by simp [hx])))⟩

set_option maxHeartbeats 2000000 in
theorem mark_ListTabAtom (l : List TabAtom) (v : Value) (F : List Nat) (k : Int) (w : World) (h : OwnSl w v l F) (hnd : F.Nodup) (hlt : ∀ x, x ∈ F → x < w.heap.size) (h0 : 0 ≤ k) (hm : k + ((Mk.ct l : Nat) : Int) ≤ 1099511627776) :
    Calls Try.prog 34 #[v, .int .i64 k] w fun e w' => e = .returned (.int .i64 (k + ((Mk.ct l : Nat) : Int))) ∧ OwnSl w' v (Mk.put l k) F ∧ Chg F w w' := by
  obtain ⟨A, c, rfl, hl, hmx⟩ := h.sl.form
  unfold maxLen at hmx
  go_enter Try.func34, Try.ntmps34
  go_wp2
  go_loopw [1, 5] (fun r i wr => ∃ j : Nat, j ≤ l.length ∧ i = .int .i64 j ∧ r = .int .i64 (k + ((ctTo l j : Nat) : Int)) ∧ OwnSl wr (.slice A l.length c) (mkTo l k j) F ∧ Chg F w wr) (fun _ i _ => l.length - (intOf i).toNat)
  case atStart => exact ⟨0, by omega, rfl, by rw [ctTo_zero]; exact congrArg (Value.int .i64) (by omega), by rw [mkTo_zero]; exact h, Chg.refl _ _⟩
  case round =>
    obtain ⟨j, hj, rfl, rfl, ho, hch⟩ := hrel
    by_cases hlt' : j < l.length
    · have hcs := ctTo_succ l j hlt'
      have hcl := ctTo_le l (j + 1) (by omega)
      have HM := hide (mkTo_succ l k j hlt')
      obtain ⟨b, off, c', Fi, us, e, hown, hc, hnd', hsub, hfz, hclose⟩ := ho.focus hnd (i := j) (by rw [mkTo_length]; exact hlt')
      simp only [mkTo_getElem l k j hlt'] at hown
      injection e with ea eb ec
      subst ea
      have HC := hide hclose
      clear hclose ec eb
      obtain ⟨v1, v2, F1, F2, rfl, hk0, ho1, ho2, rfl⟩ := hown
      have e0 : wr.cell? ⟨b, off + j * 4, none⟩ = some (.int .i64 (l[j].kind)) := hc 0 _ rfl
      have e1 : wr.cell? ⟨b, off + j * 4 + 1, none⟩ = some (.int .i64 (l[j].k)) := hc 1 _ rfl
      have e2 : wr.cell? ⟨b, off + j * 4 + 2, none⟩ = some (v1) := hc 2 _ rfl
      have e3 : wr.cell? ⟨b, off + j * 4 + 3, none⟩ = some (v2) := hc 3 _ rfl
      have hbF : b ∈ F := hsub b List.mem_cons_self
      have hbl : b < wr.heap.size := Nat.lt_of_lt_of_le (hlt b hbF) hch.size
      have z0 : (0 : Int) ≤ (j : Int) := by omega
      have z1 : (j : Int) < (l.length : Int) := by omega
      have hn := hnd'
      simp only [List.nodup_cons, List.nodup_append, List.mem_append, not_or] at hn
      obtain ⟨⟨nb1, nb2⟩, ⟨nd1, nd2, dj2⟩⟩ := hn
      have lt1 : ∀ x, x ∈ F1 → x < wr.heap.size := fun x hx => Nat.lt_of_lt_of_le (hlt x (hsub x (List.mem_cons_of_mem _ (by simp [hx])))) hch.size
      have lt2 : ∀ x, x ∈ F2 → x < wr.heap.size := fun x hx => Nat.lt_of_lt_of_le (hlt x (hsub x (List.mem_cons_of_mem _ (by simp [hx])))) hch.size
      obtain ⟨Av1, cv1, rfl, -, -⟩ := ho1.sl.form
      obtain ⟨Av2, cv2, rfl, -, -⟩ := ho2.sl.form
      have hct : Mk.ct l[j] = 1 + 1 + Mk.ct l[j].x.monos + Mk.ct l[j].y.monos := rfl
      have hR0 : RowV b (off + j * 4) [.int .i64 (l[j].kind), .int .i64 (l[j].k), .slice Av1 (l[j].x.monos).length cv1, .slice Av2 (l[j].y.monos).length cv2] wr := RowV.mk_ (by intro m u hu; match m, hu with | 0, hu => (have h := hu; injection h with h; subst h; exact e0) | 1, hu => (have h := hu; injection h with h; subst h; exact e1) | 2, hu => (have h := hu; injection h with h; subst h; exact e2) | 3, hu => (have h := hu; injection h with h; subst h; exact e3) | m + 4, hu => simp at hu)
      clear hc
      go_wp2_with fail
      refine (mark_ListTrmMono l[j].x.monos _ F1 _ _ (ho1.stay (fun x hx => Loc.block (b := b) (lo := off + j * 4) (hi := off + j * 4 + 4) (G := []) (by (repeat' (first | (with_reducible refine Loc.set ?_ ?_ ?_ _) | (with_reducible exact Loc.refl _ _ _ _ _))); all_goals (first | omega | (simp; omega))) x (lt1 x hx) (fun e => nb1 (e ▸ hx)) (by simp))) nd1 (fun x hx => by have := lt1 x hx; first | omega | (simp; omega)) (by omega) (by omega)).mono ?_
      rintro e w1 ⟨rfl, hp1, hh1⟩
      have hs1 := hh1.size
      try simp at hs1
      have hL1 : Loc b (off + j * 4) (off + j * 4 + 4) (F1) wr w1 := Loc.chg (Loc.mono (G := []) (by (repeat' (first | (with_reducible refine Loc.set ?_ ?_ ?_ _) | (with_reducible exact Loc.refl _ _ _ _ _))); all_goals (first | omega | (simp; omega))) (by intro x hx; first | (simp_all; done) | ((try simp only [List.mem_append] at hx ⊢); (try simp only [or_assoc] at hx ⊢); rcases hx with hx | hx | hx <;> (simp [hx]; done)) | ((try simp only [List.mem_append] at hx ⊢); (try simp only [or_assoc] at hx ⊢); rcases hx with hx | hx <;> simp [hx]))) hh1 (by intro x hx; simp [hx]) nb1 hbl
      have hc1 := fun o => hh1.cell (x := b) (o := o) (by first | omega | (simp; omega)) nb1
      have hg1 : ∀ o, w1.frozen? ⟨b, o, none⟩ = false := fun o => (hL1.frozen b o hbl).trans (hfz o)
      have hR1 : RowV b (off + j * 4) [.int .i64 (k + ((ctTo l j : Nat) : Int)), .int .i64 (k + ((ctTo l j : Nat) : Int) + 1), .slice Av1 (l[j].x.monos).length cv1, .slice Av2 (l[j].y.monos).length cv2] w1 := RowV.chg (RowV.set (m := 1) (RowV.set (m := 0) hR0 (by simp) rfl (by first | rfl | omega)) (by simp) rfl (by first | rfl | omega)) hh1 nb1 (by first | omega | (simp; omega))
      go_wp2_with fail
      refine (mark_ListTrmMono l[j].y.monos _ F2 _ _ (ho2.stay (fun x hx => Loc.block (b := b) (lo := off + j * 4) (hi := off + j * 4 + 4) (G := F1) (by (repeat' (first | (with_reducible exact hL1) | (with_reducible refine Loc.set ?_ ?_ ?_ _) | (with_reducible exact Loc.refl _ _ _ _ _))); all_goals (first | omega | (simp; omega))) x (lt2 x hx) (fun e => nb2 (e ▸ hx)) (by first | exact (fun hy => dj2 x hy x hx rfl) | (simp only [List.mem_append, not_or]; exact (fun hy => dj2 x hy x hx rfl))))) nd2 (fun x hx => by have := lt2 x hx; first | omega | (simp; omega)) (by omega) (by omega)).mono ?_
      rintro e w2 ⟨rfl, hp2, hh2⟩
      have hs2 := hh2.size
      try simp at hs2
      have hL2 : Loc b (off + j * 4) (off + j * 4 + 4) (F1 ++ F2) wr w2 := Loc.chg (Loc.mono (G := F1) (by (repeat' (first | (with_reducible exact hL1) | (with_reducible refine Loc.set ?_ ?_ ?_ _) | (with_reducible exact Loc.refl _ _ _ _ _))); all_goals (first | omega | (simp; omega))) (by intro x hx; first | (simp_all; done) | ((try simp only [List.mem_append] at hx ⊢); (try simp only [or_assoc] at hx ⊢); rcases hx with hx | hx | hx <;> (simp [hx]; done)) | ((try simp only [List.mem_append] at hx ⊢); (try simp only [or_assoc] at hx ⊢); rcases hx with hx | hx <;> simp [hx]))) hh2 (by intro x hx; simp [hx]) nb2 hbl
      have hc2 := fun o => hh2.cell (x := b) (o := o) (by first | omega | (simp; omega)) nb2
      have hg2 : ∀ o, w2.frozen? ⟨b, o, none⟩ = false := fun o => (hL2.frozen b o hbl).trans (hfz o)
      have hR2 : RowV b (off + j * 4) [.int .i64 (k + ((ctTo l j : Nat) : Int)), .int .i64 (k + ((ctTo l j : Nat) : Int) + 1), .slice Av1 (l[j].x.monos).length cv1, .slice Av2 (l[j].y.monos).length cv2] w2 := RowV.chg hR1 hh2 nb2 (by first | omega | (simp; omega))
      clear ho
      go_wp2
      go_roundw
      case rel =>
        refine ⟨j + 1, by omega, by go_num, congrArg (Value.int .i64) (by omega), ?_, ?_⟩
        · rw [HM.out]
          refine HC.out _ (Mk.put l[j] (k + ((ctTo l j : Nat) : Int))) [.int .i64 (k + ((ctTo l j : Nat) : Int)), .int .i64 (k + ((ctTo l j : Nat) : Int) + 1), .slice Av1 (l[j].x.monos).length cv1, .slice Av2 (l[j].y.monos).length cv2] ⟨_, _, F1, F2, rfl, by first | (unfold TabAtom.Ok Fits; simp only [Mk.put]; omega) | exact True.intro, (hp1.stay (fun x hx => by (repeat (first | rw [heap_set _ _ _ _ (by rintro rfl; exact nb1 hx)] | rw [hh2.heap (by have := lt1 x hx; first | omega | (simp; omega)) (fun hy => dj2 x hx x hy rfl)])); (try rfl))), (hp2.stay (fun x hx => by (repeat (first | rw [heap_set _ _ _ _ (by rintro rfl; exact nb2 hx)])); (try rfl))), rfl⟩ (RowV.out (off := off) (i := j * 4) hR2) (fun o ho => Loc.cells (G := F1 ++ F2) (lo := off + j * 4) (hi := off + j * 4 + 4) (by (repeat' (first | (with_reducible exact hL2) | (with_reducible refine Loc.set ?_ ?_ ?_ _) | (with_reducible exact Loc.refl _ _ _ _ _))); all_goals (first | omega | (simp; omega))) o ho) (fun o => ((Loc.frozen (G := F1 ++ F2) (lo := off + j * 4) (hi := off + j * 4 + 4) (by (repeat' (first | (with_reducible exact hL2) | (with_reducible refine Loc.set ?_ ?_ ?_ _) | (with_reducible exact Loc.refl _ _ _ _ _))); all_goals (first | omega | (simp; omega)))) b o hbl).trans (hfz o)) (fun x hx hn => Loc.block (G := F1 ++ F2) (lo := off + j * 4) (hi := off + j * 4 + 4) (by (repeat' (first | (with_reducible exact hL2) | (with_reducible refine Loc.set ?_ ?_ ?_ _) | (with_reducible exact Loc.refl _ _ _ _ _))); all_goals (first | omega | (simp; omega))) x (Nat.lt_of_lt_of_le (hlt x hx) hch.size) (fun e => hn (e ▸ List.mem_cons_self)) (fun hm => hn (List.mem_cons_of_mem _ hm)))
        · exact hch.trans ((Loc.toChg (b := b) (lo := off + j * 4) (hi := off + j * 4 + 4) (G := F1 ++ F2) (by (repeat' (first | (with_reducible exact hL2) | (with_reducible refine Loc.set ?_ ?_ ?_ _) | (with_reducible exact Loc.refl _ _ _ _ _))); all_goals (first | omega | (simp; omega)))).mono (fun x hx => hsub x (by simpa using hx)))
      case measure => simp [intOf]; omega
    · obtain rfl : j = l.length := by omega
      go_wp2
      go_ret
      exact ⟨rfl, ho, hch⟩

set_option maxHeartbeats 2000000 in
theorem held_ListTabAtom (l : List TabAtom) (v : Value) (k : Int) (w : World) (h : Sl w (Old w) v (Mk.put l k)) (h0 : 0 ≤ k) (hm : k + ((Mk.ct l : Nat) : Int) ≤ 1099511627776) :
    Calls Try.prog 36 #[v, .int .i64 k] w fun e w' => e = .returned (.int .i64 (k + ((Mk.ct l : Nat) : Int))) ∧ Ext w w' := by
  obtain ⟨A, c, e, hl, hmx⟩ := h.form
  rw [mk_length] at e hl
  subst e
  unfold maxLen at hmx
  go_enter Try.func36, Try.ntmps36
  go_wp2
  go_loopw [1, 5] (fun r i wr => ∃ j : Nat, j ≤ l.length ∧ i = .int .i64 j ∧ r = .int .i64 (k + ((ctTo l j : Nat) : Int)) ∧ Ext w wr) (fun _ i _ => l.length - (intOf i).toNat)
  case atStart => exact ⟨0, by omega, rfl, by rw [ctTo_zero]; exact congrArg (Value.int .i64) (by omega), Ext.refl _⟩
  case round =>
    obtain ⟨j, hj, rfl, rfl, he⟩ := hrel
    by_cases hlt' : j < l.length
    · have hcs := ctTo_succ l j hlt'
      have hcl := ctTo_le l (j + 1) (by omega)
      have hmj : (Mk.put l k)[j]'(by rw [mk_length]; exact hlt') = Mk.put l[j] (k + ((ctTo l j : Nat) : Int)) := by
        have := mk_get l k j hlt'
        rw [List.getElem?_eq_getElem (by rw [mk_length]; exact hlt')] at this
        injection this
      obtain ⟨b, off, v1, v2, rfl, hbo, hk0, hv1, hv2, e0, e1, e2, e3⟩ := at_TabAtom (h.ext he) (i := j) (by rw [mk_length]; exact hlt')
      rw [hmj] at hv1 hv2 e0 e1
      have hbl : b < wr.heap.size := hbo
      replace e0 : wr.cell? ⟨b, off + j * 4, none⟩ = some (.int .i64 (k + ((ctTo l j : Nat) : Int))) := e0
      replace e1 : wr.cell? ⟨b, off + j * 4 + 1, none⟩ = some (.int .i64 (k + ((ctTo l j : Nat) : Int) + 1)) := e1
      replace hv1 : Sl wr (Old wr) v1 (Mk.put l[j].x.monos (k + ((ctTo l j : Nat) : Int) + 1 + 1)) := hv1
      replace e2 : wr.cell? ⟨b, off + j * 4 + 2, none⟩ = some v1 := e2
      replace hv2 : Sl wr (Old wr) v2 (Mk.put l[j].y.monos (k + ((ctTo l j : Nat) : Int) + 1 + 1 + ((Mk.ct l[j].x.monos : Nat) : Int))) := hv2
      replace e3 : wr.cell? ⟨b, off + j * 4 + 3, none⟩ = some v2 := e3
      obtain ⟨Av1, cv1, rfl, -, -⟩ := hv1.form
      obtain ⟨Av2, cv2, rfl, -, -⟩ := hv2.form
      have z0 : (0 : Int) ≤ (j : Int) := by omega
      have z1 : (j : Int) < (l.length : Int) := by omega
      have hct : Mk.ct l[j] = 1 + 1 + Mk.ct l[j].x.monos + Mk.ct l[j].y.monos := rfl
      clear hmj hk0
      go_wp2_with fail
      refine (held_ListTrmMono l[j].x.monos _ _ _ (hv1.ext (Ext.auto)) (by omega) (by omega)).mono ?_
      rintro e w1 ⟨rfl, hx1⟩
      have hs1 := hx1.size
      try simp at hs1
      have hr1 : Ext wr w1 := Ext.trans (Ext.auto) hx1
      have hc1 := fun o => hx1.cell (b := b) (o := o) (by first | omega | (simp; omega))
      go_wp2_with fail
      refine (held_ListTrmMono l[j].y.monos _ _ _ (hv2.ext (Ext.hold hr1)) (by omega) (by omega)).mono ?_
      rintro e w2 ⟨rfl, hx2⟩
      have hs2 := hx2.size
      try simp at hs2
      have hr2 : Ext wr w2 := Ext.trans (Ext.hold hr1) hx2
      have hc2 := fun o => hx2.cell (b := b) (o := o) (by first | omega | (simp; omega))
      go_wp2
      go_roundw
      case rel => exact ⟨j + 1, by omega, by go_num, congrArg (Value.int .i64) (by omega), he.trans hr2⟩
      case measure => simp [intOf]; omega
    · obtain rfl : j = l.length := by omega
      go_wp2
      go_ret
      exact ⟨rfl, he⟩

set_option maxHeartbeats 2000000 in
theorem mark_TabTab (o : TabTab) (v1 : Value) (F1 : List Nat) (k : Int) (w : World) (ho1 : OwnSl w v1 o.atoms F1) (hnd : (F1).Nodup) (hlt : ∀ x, x ∈ F1 → x < w.heap.size) (h0 : 0 ≤ k) (hm : k + ((TabTab.ctV o : Nat) : Int) ≤ 1099511627776) :
    Calls Try.prog 10 #[.agg #[v1], .int .i64 k] w fun e w' => e = .returned (.int .i64 (k + ((TabTab.ctV o : Nat) : Int))) ∧ OwnSl w' v1 (Mk.put o.atoms (k)) F1 ∧ Chg (F1) w w' := by
  have hct : TabTab.ctV o = Mk.ct o.atoms := rfl
  have nd1 := hnd
  have lt1 : ∀ x, x ∈ F1 → x < w.heap.size := fun x hx => hlt x (by simp [hx])
  obtain ⟨Av1, cv1, rfl, -, -⟩ := ho1.sl.form
  go_enter Try.func10, Try.ntmps10
  go_wp2_with fail
  refine (mark_ListTabAtom o.atoms _ F1 _ _ (ho1.stay (fun x hx => by have hq := lt1 x hx; exact Ext.heap (Ext.auto) hq)) nd1 (fun x hx => by have := lt1 x hx; first | omega | (simp; omega)) (by omega) (by omega)).mono ?_
  rintro e w1 ⟨rfl, hp1, hh1⟩
  have hs1 := hh1.size
  try simp at hs1
  have hc1 := fun o => hh1.cell (x := w.heap.size) (o := o) (by first | omega | (simp; try omega)) (fun hx => Nat.lt_irrefl _ (hlt _ (by exact hx)))
  have hcg : ∀ W, Ext w W → True := fun _ _ => trivial
  clear hcg
  go_wp2
  go_ret
  exact ⟨congrArg (fun z => Ending.returned (.int .i64 z)) (by omega), hp1, (Chg.trans (Chg.of_ext (Ext.auto) _) (hh1.mono (fun x hx => by exact hx)))⟩

set_option maxHeartbeats 2000000 in
theorem held_TabTab (o : TabTab) (v1 : Value) (k : Int) (w : World) (h1 : Sl w (Old w) v1 (Mk.put o.atoms (k))) (h0 : 0 ≤ k) (hm : k + ((TabTab.ctV o : Nat) : Int) ≤ 1099511627776) :
    Calls Try.prog 12 #[.agg #[v1], .int .i64 k] w fun e w' => e = .returned (.int .i64 (k + ((TabTab.ctV o : Nat) : Int))) ∧ Ext w w' := by
  have hct : TabTab.ctV o = Mk.ct o.atoms := rfl
  obtain ⟨Av1, cv1, e1, -, -⟩ := h1.form
  rw [mk_length] at e1
  subst e1
  go_enter Try.func12, Try.ntmps12
  go_wp2_with fail
  refine (held_ListTabAtom o.atoms _ _ _ (h1.ext (Ext.auto)) (by omega) (by omega)).mono ?_
  rintro e w1 ⟨rfl, hx1⟩
  have hs1 := hx1.size
  try simp at hs1
  have he1 : Ext w w1 := Ext.trans (Ext.auto) hx1
  have hc1 := fun b o (hb : b < w.heap.size + 1) => hx1.cell (b := b) (o := o) (by first | omega | (simp; omega))
  have hg1 := fun b o (hb : b < w.heap.size + 1) => hx1.frozen (b := b) (o := o) (by first | omega | (simp; omega))
  go_wp2
  go_ret
  exact ⟨congrArg (fun z => Ending.returned (.int .i64 z)) (by omega), (Ext.hold he1)⟩

set_option maxHeartbeats 2000000 in
theorem mark_ListSymEvent (l : List SymEvent) (v : Value) (F : List Nat) (k : Int) (w : World) (h : OwnSl w v l F) (hnd : F.Nodup) (hlt : ∀ x, x ∈ F → x < w.heap.size) (h0 : 0 ≤ k) (hm : k + ((Mk.ct l : Nat) : Int) ≤ 1099511627776) :
    Calls Try.prog 65 #[v, .int .i64 k] w fun e w' => e = .returned (.int .i64 (k + ((Mk.ct l : Nat) : Int))) ∧ OwnSl w' v (Mk.put l k) F ∧ Chg F w w' := by
  obtain ⟨A, c, rfl, hl, hmx⟩ := h.sl.form
  unfold maxLen at hmx
  go_enter Try.func65, Try.ntmps65
  go_wp2
  go_loopw [1, 5] (fun r i wr => ∃ j : Nat, j ≤ l.length ∧ i = .int .i64 j ∧ r = .int .i64 (k + ((ctTo l j : Nat) : Int)) ∧ OwnSl wr (.slice A l.length c) (mkTo l k j) F ∧ Chg F w wr) (fun _ i _ => l.length - (intOf i).toNat)
  case atStart => exact ⟨0, by omega, rfl, by rw [ctTo_zero]; exact congrArg (Value.int .i64) (by omega), by rw [mkTo_zero]; exact h, Chg.refl _ _⟩
  case round =>
    obtain ⟨j, hj, rfl, rfl, ho, hch⟩ := hrel
    by_cases hlt' : j < l.length
    · have hcs := ctTo_succ l j hlt'
      have hcl := ctTo_le l (j + 1) (by omega)
      have HM := hide (mkTo_succ l k j hlt')
      obtain ⟨b, off, c', Fi, us, e, hown, hc, hnd', hsub, hfz, hclose⟩ := ho.focus hnd (i := j) (by rw [mkTo_length]; exact hlt')
      simp only [mkTo_getElem l k j hlt'] at hown
      injection e with ea eb ec
      subst ea
      have HC := hide hclose
      clear hclose ec eb
      obtain ⟨v1, v2, v3, F1, F2, F3, rfl, hk0, ho1, ho2, ho3, rfl⟩ := hown
      have e0 : wr.cell? ⟨b, off + j * 5, none⟩ = some (.int .i64 (l[j].kind)) := hc 0 _ rfl
      have e1 : wr.cell? ⟨b, off + j * 5 + 1, none⟩ = some (.int .i64 (l[j].at_)) := hc 1 _ rfl
      have e2 : wr.cell? ⟨b, off + j * 5 + 2, none⟩ = some (v1) := hc 2 _ rfl
      have e3 : wr.cell? ⟨b, off + j * 5 + 3, none⟩ = some (v2) := hc 3 _ rfl
      have e4 : wr.cell? ⟨b, off + j * 5 + 4, none⟩ = some (v3) := hc 4 _ rfl
      have hbF : b ∈ F := hsub b List.mem_cons_self
      have hbl : b < wr.heap.size := Nat.lt_of_lt_of_le (hlt b hbF) hch.size
      have z0 : (0 : Int) ≤ (j : Int) := by omega
      have z1 : (j : Int) < (l.length : Int) := by omega
      have hn := hnd'
      simp only [List.nodup_cons, List.nodup_append, List.mem_append, not_or] at hn
      obtain ⟨⟨⟨nb1, nb2⟩, nb3⟩, ⟨⟨nd1, nd2, dj2⟩, nd3, dj3⟩⟩ := hn
      have lt1 : ∀ x, x ∈ F1 → x < wr.heap.size := fun x hx => Nat.lt_of_lt_of_le (hlt x (hsub x (List.mem_cons_of_mem _ (by simp [hx])))) hch.size
      have lt2 : ∀ x, x ∈ F2 → x < wr.heap.size := fun x hx => Nat.lt_of_lt_of_le (hlt x (hsub x (List.mem_cons_of_mem _ (by simp [hx])))) hch.size
      have lt3 : ∀ x, x ∈ F3 → x < wr.heap.size := fun x hx => Nat.lt_of_lt_of_le (hlt x (hsub x (List.mem_cons_of_mem _ (by simp [hx])))) hch.size
      obtain ⟨Av1, cv1, rfl, -, -⟩ := ho1.sl.form
      obtain ⟨Av2, cv2, rfl, -, -⟩ := ho2.sl.form
      obtain ⟨Av3, cv3, rfl, -, -⟩ := ho3.sl.form
      have hct : Mk.ct l[j] = 1 + 1 + Mk.ct l[j].x.monos + Mk.ct l[j].y.monos + Mk.ct l[j].regs := rfl
      have hR0 : RowV b (off + j * 5) [.int .i64 (l[j].kind), .int .i64 (l[j].at_), .slice Av1 (l[j].x.monos).length cv1, .slice Av2 (l[j].y.monos).length cv2, .slice Av3 (l[j].regs).length cv3] wr := RowV.mk_ (by intro m u hu; match m, hu with | 0, hu => (have h := hu; injection h with h; subst h; exact e0) | 1, hu => (have h := hu; injection h with h; subst h; exact e1) | 2, hu => (have h := hu; injection h with h; subst h; exact e2) | 3, hu => (have h := hu; injection h with h; subst h; exact e3) | 4, hu => (have h := hu; injection h with h; subst h; exact e4) | m + 5, hu => simp at hu)
      clear hc
      go_wp2_with fail
      refine (mark_ListTrmMono l[j].x.monos _ F1 _ _ (ho1.stay (fun x hx => Loc.block (b := b) (lo := off + j * 5) (hi := off + j * 5 + 5) (G := []) (by (repeat' (first | (with_reducible refine Loc.set ?_ ?_ ?_ _) | (with_reducible exact Loc.refl _ _ _ _ _))); all_goals (first | omega | (simp; omega))) x (lt1 x hx) (fun e => nb1 (e ▸ hx)) (by simp))) nd1 (fun x hx => by have := lt1 x hx; first | omega | (simp; omega)) (by omega) (by omega)).mono ?_
      rintro e w1 ⟨rfl, hp1, hh1⟩
      have hs1 := hh1.size
      try simp at hs1
      have hL1 : Loc b (off + j * 5) (off + j * 5 + 5) (F1) wr w1 := Loc.chg (Loc.mono (G := []) (by (repeat' (first | (with_reducible refine Loc.set ?_ ?_ ?_ _) | (with_reducible exact Loc.refl _ _ _ _ _))); all_goals (first | omega | (simp; omega))) (by intro x hx; first | (simp_all; done) | ((try simp only [List.mem_append] at hx ⊢); (try simp only [or_assoc] at hx ⊢); rcases hx with hx | hx | hx <;> (simp [hx]; done)) | ((try simp only [List.mem_append] at hx ⊢); (try simp only [or_assoc] at hx ⊢); rcases hx with hx | hx <;> simp [hx]))) hh1 (by intro x hx; simp [hx]) nb1 hbl
      have hc1 := fun o => hh1.cell (x := b) (o := o) (by first | omega | (simp; omega)) nb1
      have hg1 : ∀ o, w1.frozen? ⟨b, o, none⟩ = false := fun o => (hL1.frozen b o hbl).trans (hfz o)
      have hR1 : RowV b (off + j * 5) [.int .i64 (k + ((ctTo l j : Nat) : Int)), .int .i64 (k + ((ctTo l j : Nat) : Int) + 1), .slice Av1 (l[j].x.monos).length cv1, .slice Av2 (l[j].y.monos).length cv2, .slice Av3 (l[j].regs).length cv3] w1 := RowV.chg (RowV.set (m := 1) (RowV.set (m := 0) hR0 (by simp) rfl (by first | rfl | omega)) (by simp) rfl (by first | rfl | omega)) hh1 nb1 (by first | omega | (simp; omega))
      go_wp2_with fail
      refine (mark_ListTrmMono l[j].y.monos _ F2 _ _ (ho2.stay (fun x hx => Loc.block (b := b) (lo := off + j * 5) (hi := off + j * 5 + 5) (G := F1) (by (repeat' (first | (with_reducible exact hL1) | (with_reducible refine Loc.set ?_ ?_ ?_ _) | (with_reducible exact Loc.refl _ _ _ _ _))); all_goals (first | omega | (simp; omega))) x (lt2 x hx) (fun e => nb2 (e ▸ hx)) (by first | exact (fun hy => dj2 x hy x hx rfl) | (simp only [List.mem_append, not_or]; exact (fun hy => dj2 x hy x hx rfl))))) nd2 (fun x hx => by have := lt2 x hx; first | omega | (simp; omega)) (by omega) (by omega)).mono ?_
      rintro e w2 ⟨rfl, hp2, hh2⟩
      have hs2 := hh2.size
      try simp at hs2
      have hL2 : Loc b (off + j * 5) (off + j * 5 + 5) (F1 ++ F2) wr w2 := Loc.chg (Loc.mono (G := F1) (by (repeat' (first | (with_reducible exact hL1) | (with_reducible refine Loc.set ?_ ?_ ?_ _) | (with_reducible exact Loc.refl _ _ _ _ _))); all_goals (first | omega | (simp; omega))) (by intro x hx; first | (simp_all; done) | ((try simp only [List.mem_append] at hx ⊢); (try simp only [or_assoc] at hx ⊢); rcases hx with hx | hx | hx <;> (simp [hx]; done)) | ((try simp only [List.mem_append] at hx ⊢); (try simp only [or_assoc] at hx ⊢); rcases hx with hx | hx <;> simp [hx]))) hh2 (by intro x hx; simp [hx]) nb2 hbl
      have hc2 := fun o => hh2.cell (x := b) (o := o) (by first | omega | (simp; omega)) nb2
      have hg2 : ∀ o, w2.frozen? ⟨b, o, none⟩ = false := fun o => (hL2.frozen b o hbl).trans (hfz o)
      have hR2 : RowV b (off + j * 5) [.int .i64 (k + ((ctTo l j : Nat) : Int)), .int .i64 (k + ((ctTo l j : Nat) : Int) + 1), .slice Av1 (l[j].x.monos).length cv1, .slice Av2 (l[j].y.monos).length cv2, .slice Av3 (l[j].regs).length cv3] w2 := RowV.chg hR1 hh2 nb2 (by first | omega | (simp; omega))
      go_wp2_with fail
      refine (mark_ListTrmPoly l[j].regs _ F3 _ _ (ho3.stay (fun x hx => Loc.block (b := b) (lo := off + j * 5) (hi := off + j * 5 + 5) (G := F1 ++ F2) (by (repeat' (first | (with_reducible exact hL2) | (with_reducible refine Loc.set ?_ ?_ ?_ _) | (with_reducible exact Loc.refl _ _ _ _ _))); all_goals (first | omega | (simp; omega))) x (lt3 x hx) (fun e => nb3 (e ▸ hx)) (by first | exact ⟨(fun hy => dj3 x (Or.inl hy) x hx rfl), (fun hy => dj3 x (Or.inr hy) x hx rfl)⟩ | (simp only [List.mem_append, not_or]; exact ⟨(fun hy => dj3 x (Or.inl hy) x hx rfl), (fun hy => dj3 x (Or.inr hy) x hx rfl)⟩)))) nd3 (fun x hx => by have := lt3 x hx; first | omega | (simp; omega)) (by omega) (by omega)).mono ?_
      rintro e w3 ⟨rfl, hp3, hh3⟩
      have hs3 := hh3.size
      try simp at hs3
      have hL3 : Loc b (off + j * 5) (off + j * 5 + 5) (F1 ++ F2 ++ F3) wr w3 := Loc.chg (Loc.mono (G := F1 ++ F2) (by (repeat' (first | (with_reducible exact hL2) | (with_reducible refine Loc.set ?_ ?_ ?_ _) | (with_reducible exact Loc.refl _ _ _ _ _))); all_goals (first | omega | (simp; omega))) (by intro x hx; first | (simp_all; done) | ((try simp only [List.mem_append] at hx ⊢); (try simp only [or_assoc] at hx ⊢); rcases hx with hx | hx | hx <;> (simp [hx]; done)) | ((try simp only [List.mem_append] at hx ⊢); (try simp only [or_assoc] at hx ⊢); rcases hx with hx | hx <;> simp [hx]))) hh3 (by intro x hx; simp [hx]) nb3 hbl
      have hc3 := fun o => hh3.cell (x := b) (o := o) (by first | omega | (simp; omega)) nb3
      have hg3 : ∀ o, w3.frozen? ⟨b, o, none⟩ = false := fun o => (hL3.frozen b o hbl).trans (hfz o)
      have hR3 : RowV b (off + j * 5) [.int .i64 (k + ((ctTo l j : Nat) : Int)), .int .i64 (k + ((ctTo l j : Nat) : Int) + 1), .slice Av1 (l[j].x.monos).length cv1, .slice Av2 (l[j].y.monos).length cv2, .slice Av3 (l[j].regs).length cv3] w3 := RowV.chg hR2 hh3 nb3 (by first | omega | (simp; omega))
      clear ho
      go_wp2
      go_roundw
      case rel =>
        refine ⟨j + 1, by omega, by go_num, congrArg (Value.int .i64) (by omega), ?_, ?_⟩
        · rw [HM.out]
          refine HC.out _ (Mk.put l[j] (k + ((ctTo l j : Nat) : Int))) [.int .i64 (k + ((ctTo l j : Nat) : Int)), .int .i64 (k + ((ctTo l j : Nat) : Int) + 1), .slice Av1 (l[j].x.monos).length cv1, .slice Av2 (l[j].y.monos).length cv2, .slice Av3 (l[j].regs).length cv3] ⟨_, _, _, F1, F2, F3, rfl, by first | (unfold SymEvent.Ok Fits; simp only [Mk.put]; omega) | exact True.intro, (hp1.stay (fun x hx => by (repeat (first | rw [heap_set _ _ _ _ (by rintro rfl; exact nb1 hx)] | rw [hh2.heap (by have := lt1 x hx; first | omega | (simp; omega)) (fun hy => dj2 x hx x hy rfl)] | rw [hh3.heap (by have := lt1 x hx; first | omega | (simp; omega)) (fun hy => dj3 x (Or.inl hx) x hy rfl)])); (try rfl))), (hp2.stay (fun x hx => by (repeat (first | rw [heap_set _ _ _ _ (by rintro rfl; exact nb2 hx)] | rw [hh3.heap (by have := lt2 x hx; first | omega | (simp; omega)) (fun hy => dj3 x (Or.inr hx) x hy rfl)])); (try rfl))), (hp3.stay (fun x hx => by (repeat (first | rw [heap_set _ _ _ _ (by rintro rfl; exact nb3 hx)])); (try rfl))), rfl⟩ (RowV.out (off := off) (i := j * 5) hR3) (fun o ho => Loc.cells (G := F1 ++ F2 ++ F3) (lo := off + j * 5) (hi := off + j * 5 + 5) (by (repeat' (first | (with_reducible exact hL3) | (with_reducible refine Loc.set ?_ ?_ ?_ _) | (with_reducible exact Loc.refl _ _ _ _ _))); all_goals (first | omega | (simp; omega))) o ho) (fun o => ((Loc.frozen (G := F1 ++ F2 ++ F3) (lo := off + j * 5) (hi := off + j * 5 + 5) (by (repeat' (first | (with_reducible exact hL3) | (with_reducible refine Loc.set ?_ ?_ ?_ _) | (with_reducible exact Loc.refl _ _ _ _ _))); all_goals (first | omega | (simp; omega)))) b o hbl).trans (hfz o)) (fun x hx hn => Loc.block (G := F1 ++ F2 ++ F3) (lo := off + j * 5) (hi := off + j * 5 + 5) (by (repeat' (first | (with_reducible exact hL3) | (with_reducible refine Loc.set ?_ ?_ ?_ _) | (with_reducible exact Loc.refl _ _ _ _ _))); all_goals (first | omega | (simp; omega))) x (Nat.lt_of_lt_of_le (hlt x hx) hch.size) (fun e => hn (e ▸ List.mem_cons_self)) (fun hm => hn (List.mem_cons_of_mem _ hm)))
        · exact hch.trans ((Loc.toChg (b := b) (lo := off + j * 5) (hi := off + j * 5 + 5) (G := F1 ++ F2 ++ F3) (by (repeat' (first | (with_reducible exact hL3) | (with_reducible refine Loc.set ?_ ?_ ?_ _) | (with_reducible exact Loc.refl _ _ _ _ _))); all_goals (first | omega | (simp; omega)))).mono (fun x hx => hsub x (by simpa using hx)))
      case measure => simp [intOf]; omega
    · obtain rfl : j = l.length := by omega
      go_wp2
      go_ret
      exact ⟨rfl, ho, hch⟩

set_option maxHeartbeats 2000000 in
theorem held_ListSymEvent (l : List SymEvent) (v : Value) (k : Int) (w : World) (h : Sl w (Old w) v (Mk.put l k)) (h0 : 0 ≤ k) (hm : k + ((Mk.ct l : Nat) : Int) ≤ 1099511627776) :
    Calls Try.prog 66 #[v, .int .i64 k] w fun e w' => e = .returned (.int .i64 (k + ((Mk.ct l : Nat) : Int))) ∧ Ext w w' := by
  obtain ⟨A, c, e, hl, hmx⟩ := h.form
  rw [mk_length] at e hl
  subst e
  unfold maxLen at hmx
  go_enter Try.func66, Try.ntmps66
  go_wp2
  go_loopw [1, 5] (fun r i wr => ∃ j : Nat, j ≤ l.length ∧ i = .int .i64 j ∧ r = .int .i64 (k + ((ctTo l j : Nat) : Int)) ∧ Ext w wr) (fun _ i _ => l.length - (intOf i).toNat)
  case atStart => exact ⟨0, by omega, rfl, by rw [ctTo_zero]; exact congrArg (Value.int .i64) (by omega), Ext.refl _⟩
  case round =>
    obtain ⟨j, hj, rfl, rfl, he⟩ := hrel
    by_cases hlt' : j < l.length
    · have hcs := ctTo_succ l j hlt'
      have hcl := ctTo_le l (j + 1) (by omega)
      have hmj : (Mk.put l k)[j]'(by rw [mk_length]; exact hlt') = Mk.put l[j] (k + ((ctTo l j : Nat) : Int)) := by
        have := mk_get l k j hlt'
        rw [List.getElem?_eq_getElem (by rw [mk_length]; exact hlt')] at this
        injection this
      obtain ⟨b, off, v1, v2, v3, rfl, hbo, hk0, hv1, hv2, hv3, e0, e1, e2, e3, e4⟩ := at_SymEvent (h.ext he) (i := j) (by rw [mk_length]; exact hlt')
      rw [hmj] at hv1 hv2 hv3 e0 e1
      have hbl : b < wr.heap.size := hbo
      replace e0 : wr.cell? ⟨b, off + j * 5, none⟩ = some (.int .i64 (k + ((ctTo l j : Nat) : Int))) := e0
      replace e1 : wr.cell? ⟨b, off + j * 5 + 1, none⟩ = some (.int .i64 (k + ((ctTo l j : Nat) : Int) + 1)) := e1
      replace hv1 : Sl wr (Old wr) v1 (Mk.put l[j].x.monos (k + ((ctTo l j : Nat) : Int) + 1 + 1)) := hv1
      replace e2 : wr.cell? ⟨b, off + j * 5 + 2, none⟩ = some v1 := e2
      replace hv2 : Sl wr (Old wr) v2 (Mk.put l[j].y.monos (k + ((ctTo l j : Nat) : Int) + 1 + 1 + ((Mk.ct l[j].x.monos : Nat) : Int))) := hv2
      replace e3 : wr.cell? ⟨b, off + j * 5 + 3, none⟩ = some v2 := e3
      replace hv3 : Sl wr (Old wr) v3 (Mk.put l[j].regs (k + ((ctTo l j : Nat) : Int) + 1 + 1 + ((Mk.ct l[j].x.monos : Nat) : Int) + ((Mk.ct l[j].y.monos : Nat) : Int))) := hv3
      replace e4 : wr.cell? ⟨b, off + j * 5 + 4, none⟩ = some v3 := e4
      obtain ⟨Av1, cv1, rfl, -, -⟩ := hv1.form
      obtain ⟨Av2, cv2, rfl, -, -⟩ := hv2.form
      obtain ⟨Av3, cv3, rfl, -, -⟩ := hv3.form
      have z0 : (0 : Int) ≤ (j : Int) := by omega
      have z1 : (j : Int) < (l.length : Int) := by omega
      have hct : Mk.ct l[j] = 1 + 1 + Mk.ct l[j].x.monos + Mk.ct l[j].y.monos + Mk.ct l[j].regs := rfl
      clear hmj hk0
      go_wp2_with fail
      refine (held_ListTrmMono l[j].x.monos _ _ _ (hv1.ext (Ext.auto)) (by omega) (by omega)).mono ?_
      rintro e w1 ⟨rfl, hx1⟩
      have hs1 := hx1.size
      try simp at hs1
      have hr1 : Ext wr w1 := Ext.trans (Ext.auto) hx1
      have hc1 := fun o => hx1.cell (b := b) (o := o) (by first | omega | (simp; omega))
      go_wp2_with fail
      refine (held_ListTrmMono l[j].y.monos _ _ _ (hv2.ext (Ext.hold hr1)) (by omega) (by omega)).mono ?_
      rintro e w2 ⟨rfl, hx2⟩
      have hs2 := hx2.size
      try simp at hs2
      have hr2 : Ext wr w2 := Ext.trans (Ext.hold hr1) hx2
      have hc2 := fun o => hx2.cell (b := b) (o := o) (by first | omega | (simp; omega))
      go_wp2_with fail
      refine (held_ListTrmPoly l[j].regs _ _ _ (hv3.ext (Ext.hold2 hr2 hr1)) (by omega) (by omega)).mono ?_
      rintro e w3 ⟨rfl, hx3⟩
      have hs3 := hx3.size
      try simp at hs3
      have hr3 : Ext wr w3 := Ext.trans (Ext.hold2 hr2 hr1) hx3
      have hc3 := fun o => hx3.cell (b := b) (o := o) (by first | omega | (simp; omega))
      go_wp2
      go_roundw
      case rel => exact ⟨j + 1, by omega, by go_num, congrArg (Value.int .i64) (by omega), he.trans hr3⟩
      case measure => simp [intOf]; omega
    · obtain rfl : j = l.length := by omega
      go_wp2
      go_ret
      exact ⟨rfl, he⟩

set_option maxHeartbeats 2000000 in
theorem mark_SymSym (o : SymSym) (v1 v2 v3 v4 : Value) (F1 F2 F3 F4 : List Nat) (k : Int) (w : World) (ho1 : OwnSl w v1 o.events F1) (ho2 : OwnSl w v2 o.regs F2) (ho3 : OwnSl w v3 o.x.monos F3) (ho4 : OwnSl w v4 o.y.monos F4) (hnd : (F1 ++ F2 ++ F3 ++ F4).Nodup) (hlt : ∀ x, x ∈ F1 ++ F2 ++ F3 ++ F4 → x < w.heap.size) (h0 : 0 ≤ k) (hm : k + ((SymSym.ctV o : Nat) : Int) ≤ 1099511627776) :
    Calls Try.prog 27 #[.agg #[v1, v2, .int .i64 o.fin, v3, v4, .int .i64 o.k], .int .i64 k] w fun e w' => e = .returned (.int .i64 (k + ((SymSym.ctV o : Nat) : Int))) ∧ OwnSl w' v1 (Mk.put o.events (k)) F1 ∧ OwnSl w' v2 (Mk.put o.regs (k + ((Mk.ct o.events : Nat) : Int))) F2 ∧ OwnSl w' v3 (Mk.put o.x.monos (k + ((Mk.ct o.events : Nat) : Int) + ((Mk.ct o.regs : Nat) : Int))) F3 ∧ OwnSl w' v4 (Mk.put o.y.monos (k + ((Mk.ct o.events : Nat) : Int) + ((Mk.ct o.regs : Nat) : Int) + ((Mk.ct o.x.monos : Nat) : Int))) F4 ∧ Chg (F1 ++ F2 ++ F3 ++ F4) w w' := by
  have hct : SymSym.ctV o = Mk.ct o.events + Mk.ct o.regs + Mk.ct o.x.monos + Mk.ct o.y.monos := rfl
  have hct_x : TrmPoly.ctV o.x = Mk.ct o.x.monos := rfl
  have hct_y : TrmPoly.ctV o.y = Mk.ct o.y.monos := rfl
  have hn := hnd
  simp only [List.nodup_append, List.mem_append] at hn
  obtain ⟨⟨⟨nd1, nd2, dj2⟩, nd3, dj3⟩, nd4, dj4⟩ := hn
  have lt1 : ∀ x, x ∈ F1 → x < w.heap.size := fun x hx => hlt x (by simp [hx])
  have lt2 : ∀ x, x ∈ F2 → x < w.heap.size := fun x hx => hlt x (by simp [hx])
  have lt3 : ∀ x, x ∈ F3 → x < w.heap.size := fun x hx => hlt x (by simp [hx])
  have lt4 : ∀ x, x ∈ F4 → x < w.heap.size := fun x hx => hlt x (by simp [hx])
  obtain ⟨Av1, cv1, rfl, -, -⟩ := ho1.sl.form
  obtain ⟨Av2, cv2, rfl, -, -⟩ := ho2.sl.form
  obtain ⟨Av3, cv3, rfl, -, -⟩ := ho3.sl.form
  obtain ⟨Av4, cv4, rfl, -, -⟩ := ho4.sl.form
  go_enter Try.func27, Try.ntmps27
  go_wp2_with fail
  refine (mark_ListSymEvent o.events _ F1 _ _ (ho1.stay (fun x hx => by have hq := lt1 x hx; exact Ext.heap (Ext.auto) hq)) nd1 (fun x hx => by have := lt1 x hx; first | omega | (simp; omega)) (by omega) (by omega)).mono ?_
  rintro e w1 ⟨rfl, hp1, hh1⟩
  have hs1 := hh1.size
  try simp at hs1
  have hc1 := fun o => hh1.cell (x := w.heap.size) (o := o) (by first | omega | (simp; try omega)) (fun hx => Nat.lt_irrefl _ (hlt _ (by simp [hx])))
  go_wp2_with fail
  refine (mark_ListTrmPoly o.regs _ F2 _ _ (ho2.stay (fun x hx => by have hq := lt2 x hx; rw [hh1.heap (by first | omega | (simp; omega)) (fun hy => dj2 x hy x hx rfl)]; exact Ext.heap (Ext.auto) hq)) nd2 (fun x hx => by have := lt2 x hx; first | omega | (simp; omega)) (by omega) (by omega)).mono ?_
  rintro e w2 ⟨rfl, hp2, hh2⟩
  have hs2 := hh2.size
  try simp at hs2
  have hc2 := fun o => hh2.cell (x := w.heap.size) (o := o) (by first | omega | (simp; try omega)) (fun hx => Nat.lt_irrefl _ (hlt _ (by simp [hx])))
  go_wp2_with fail
  refine (mark_TrmPoly o.x _ F3 _ _ (ho3.stay (fun x hx => by have hq := lt3 x hx; rw [hh2.heap (by first | omega | (simp; omega)) (fun hy => dj3 x (Or.inr hy) x hx rfl)]; rw [hh1.heap (by first | omega | (simp; omega)) (fun hy => dj3 x (Or.inl hy) x hx rfl)]; exact Ext.heap (Ext.auto) hq)) nd3 (fun x hx => by have := lt3 x hx; first | omega | (simp; omega)) (by omega) (by omega)).mono ?_
  rintro e w3 ⟨rfl, hp3, hh3⟩
  have hs3 := hh3.size
  try simp at hs3
  have hc3 := fun o => hh3.cell (x := w.heap.size) (o := o) (by first | omega | (simp; try omega)) (fun hx => Nat.lt_irrefl _ (hlt _ (by simp [hx])))
  go_wp2_with fail
  refine (mark_TrmPoly o.y _ F4 _ _ (ho4.stay (fun x hx => by have hq := lt4 x hx; rw [hh3.heap (by first | omega | (simp; omega)) (fun hy => dj4 x (Or.inr hy) x hx rfl)]; rw [hh2.heap (by first | omega | (simp; omega)) (fun hy => dj4 x (Or.inl (Or.inr hy)) x hx rfl)]; rw [hh1.heap (by first | omega | (simp; omega)) (fun hy => dj4 x (Or.inl (Or.inl hy)) x hx rfl)]; exact Ext.heap (Ext.auto) hq)) nd4 (fun x hx => by have := lt4 x hx; first | omega | (simp; omega)) (by omega) (by omega)).mono ?_
  rintro e w4 ⟨rfl, hp4, hh4⟩
  have hs4 := hh4.size
  try simp at hs4
  have hc4 := fun o => hh4.cell (x := w.heap.size) (o := o) (by first | omega | (simp; try omega)) (fun hx => Nat.lt_irrefl _ (hlt _ (by simp [hx])))
  have hcg : ∀ W, Ext w W → True := fun _ _ => trivial
  clear hcg
  go_wp2
  go_ret
  exact ⟨congrArg (fun z => Ending.returned (.int .i64 z)) (by omega), hp1.stay (fun x hx => by have hq := lt1 x hx; rw [hh4.heap (by first | omega | (simp; omega)) (fun hy => dj4 x (Or.inl (Or.inl hx)) x hy rfl)]; rw [hh3.heap (by first | omega | (simp; omega)) (fun hy => dj3 x (Or.inl hx) x hy rfl)]; rw [hh2.heap (by first | omega | (simp; omega)) (fun hy => dj2 x hx x hy rfl)]), hp2.stay (fun x hx => by have hq := lt2 x hx; rw [hh4.heap (by first | omega | (simp; omega)) (fun hy => dj4 x (Or.inl (Or.inr hx)) x hy rfl)]; rw [hh3.heap (by first | omega | (simp; omega)) (fun hy => dj3 x (Or.inr hx) x hy rfl)]), hp3.stay (fun x hx => by have hq := lt3 x hx; rw [hh4.heap (by first | omega | (simp; omega)) (fun hy => dj4 x (Or.inr hx) x hy rfl)]), hp4, (Chg.trans (Chg.trans (Chg.trans (Chg.trans (Chg.of_ext (Ext.auto) _) (hh1.mono (fun x hx => by simp [hx]))) (hh2.mono (fun x hx => by simp [hx]))) (hh3.mono (fun x hx => by simp [hx]))) (hh4.mono (fun x hx => by simp [hx])))⟩

set_option maxHeartbeats 2000000 in
theorem held_SymSym (o : SymSym) (v1 v2 v3 v4 : Value) (k : Int) (w : World) (h1 : Sl w (Old w) v1 (Mk.put o.events (k))) (h2 : Sl w (Old w) v2 (Mk.put o.regs (k + ((Mk.ct o.events : Nat) : Int)))) (h3 : Sl w (Old w) v3 (Mk.put o.x.monos (k + ((Mk.ct o.events : Nat) : Int) + ((Mk.ct o.regs : Nat) : Int)))) (h4 : Sl w (Old w) v4 (Mk.put o.y.monos (k + ((Mk.ct o.events : Nat) : Int) + ((Mk.ct o.regs : Nat) : Int) + ((Mk.ct o.x.monos : Nat) : Int)))) (h0 : 0 ≤ k) (hm : k + ((SymSym.ctV o : Nat) : Int) ≤ 1099511627776) :
    Calls Try.prog 28 #[.agg #[v1, v2, .int .i64 o.fin, v3, v4, .int .i64 o.k], .int .i64 k] w fun e w' => e = .returned (.int .i64 (k + ((SymSym.ctV o : Nat) : Int))) ∧ Ext w w' := by
  have hct : SymSym.ctV o = Mk.ct o.events + Mk.ct o.regs + Mk.ct o.x.monos + Mk.ct o.y.monos := rfl
  have hct_x : TrmPoly.ctV o.x = Mk.ct o.x.monos := rfl
  have hct_y : TrmPoly.ctV o.y = Mk.ct o.y.monos := rfl
  obtain ⟨Av1, cv1, e1, -, -⟩ := h1.form
  rw [mk_length] at e1
  subst e1
  obtain ⟨Av2, cv2, e2, -, -⟩ := h2.form
  rw [mk_length] at e2
  subst e2
  obtain ⟨Av3, cv3, e3, -, -⟩ := h3.form
  rw [mk_length] at e3
  subst e3
  obtain ⟨Av4, cv4, e4, -, -⟩ := h4.form
  rw [mk_length] at e4
  subst e4
  go_enter Try.func28, Try.ntmps28
  go_wp2_with fail
  refine (held_ListSymEvent o.events _ _ _ (h1.ext (Ext.auto)) (by omega) (by omega)).mono ?_
  rintro e w1 ⟨rfl, hx1⟩
  have hs1 := hx1.size
  try simp at hs1
  have he1 : Ext w w1 := Ext.trans (Ext.auto) hx1
  have hc1 := fun b o (hb : b < w.heap.size + 1) => hx1.cell (b := b) (o := o) (by first | omega | (simp; omega))
  have hg1 := fun b o (hb : b < w.heap.size + 1) => hx1.frozen (b := b) (o := o) (by first | omega | (simp; omega))
  go_wp2_with fail
  refine (held_ListTrmPoly o.regs _ _ _ (h2.ext (Ext.hold he1)) (by omega) (by omega)).mono ?_
  rintro e w2 ⟨rfl, hx2⟩
  have hs2 := hx2.size
  try simp at hs2
  have he2 : Ext w w2 := Ext.trans (Ext.hold he1) hx2
  have hc2 := fun b o (hb : b < w.heap.size + 1) => hx2.cell (b := b) (o := o) (by first | omega | (simp; omega))
  have hg2 := fun b o (hb : b < w.heap.size + 1) => hx2.frozen (b := b) (o := o) (by first | omega | (simp; omega))
  go_wp2_with fail
  refine (held_TrmPoly o.x _ _ _ (h3.ext (Ext.hold2 he2 he1)) (by omega) (by omega)).mono ?_
  rintro e w3 ⟨rfl, hx3⟩
  have hs3 := hx3.size
  try simp at hs3
  have he3 : Ext w w3 := Ext.trans (Ext.hold2 he2 he1) hx3
  have hc3 := fun b o (hb : b < w.heap.size + 1) => hx3.cell (b := b) (o := o) (by first | omega | (simp; omega))
  have hg3 := fun b o (hb : b < w.heap.size + 1) => hx3.frozen (b := b) (o := o) (by first | omega | (simp; omega))
  go_wp2_with fail
  refine (held_TrmPoly o.y _ _ _ (h4.ext (by (repeat' (first | (with_reducible exact Ext.refl _) | (with_reducible exact he3) | (with_reducible exact he2) | (with_reducible exact he1) | (with_reducible apply Ext.alloc) | (with_reducible apply Ext.drew) | (with_reducible refine Ext.setCell ?_ ?_ _))); all_goals (first | (simp; done) | (simp; omega) | omega))) (by omega) (by omega)).mono ?_
  rintro e w4 ⟨rfl, hx4⟩
  have hs4 := hx4.size
  try simp at hs4
  have he4 : Ext w w4 := Ext.trans (by (repeat' (first | (with_reducible exact Ext.refl _) | (with_reducible exact he3) | (with_reducible exact he2) | (with_reducible exact he1) | (with_reducible apply Ext.alloc) | (with_reducible apply Ext.drew) | (with_reducible refine Ext.setCell ?_ ?_ _))); all_goals (first | (simp; done) | (simp; omega) | omega)) hx4
  have hc4 := fun b o (hb : b < w.heap.size + 1) => hx4.cell (b := b) (o := o) (by first | omega | (simp; omega))
  have hg4 := fun b o (hb : b < w.heap.size + 1) => hx4.frozen (b := b) (o := o) (by first | omega | (simp; omega))
  go_wp2
  go_ret
  exact ⟨congrArg (fun z => Ending.returned (.int .i64 z)) (by omega), (by (repeat' (first | (with_reducible exact Ext.refl _) | (with_reducible exact he4) | (with_reducible exact he3) | (with_reducible exact he2) | (with_reducible exact he1) | (with_reducible apply Ext.alloc) | (with_reducible apply Ext.drew) | (with_reducible refine Ext.setCell ?_ ?_ _))); all_goals (first | (simp; done) | (simp; omega) | omega))⟩

end Go.Proofs.Ytdmbgljkogpmdaa
