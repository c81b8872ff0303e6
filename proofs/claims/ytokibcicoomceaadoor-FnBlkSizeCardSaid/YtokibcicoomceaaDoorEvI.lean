/-
  How many operations of a kind there are; how many reach out.
-/
import Derived.Test.YtokibcicoomceaaDoorBLowerP
import Derived.Deep.DeepCutAuto
namespace Go.Proofs.YtokibcicoomceaaDoor
open Go.RowKit

set_option linter.unusedVariables false
set_option linter.unusedSimpArgs false
set_option maxRecDepth 100000

theorem kinds_take {p : Int → Bool} {l : List IrOp} {k : Nat} (hk : k < l.length) : kinds p (l.take (k + 1)) = kinds p (l.take k) + if p l[k].kind then 1 else 0 := by
  rw [List.take_succ_eq_append_getElem hk, kinds_append]
  congr 1
  unfold kinds
  cases h : p l[k].kind <;> simp [h]
theorem kinds_le (p : Int → Bool) (l : List IrOp) : kinds p l ≤ l.length := List.length_filter_le ..
theorem count_take {p : Int → Bool} {l : List InsIns} {k : Nat} (hk : k < l.length) : countB p (l.take (k + 1)) = countB p (l.take k) + if p l[k].op then 1 else 0 := by
  rw [List.take_succ_eq_append_getElem hk, countB_snoc]
theorem lowGo_kinds (p : Int → Bool) (q : Int → Bool) (hq : ∀ n i a, InsR i → 1 ≤ i.op → kinds p (lowOps n i a) = if q i.op then 1 else 0) : ∀ (l : List InsIns) (b : IrBlock) (n : Nat), (∀ i, i ∈ l → InsR i ∧ 1 ≤ i.op) → kinds p (lowGo b n l).ops = kinds p b.ops + countB q l
  | [], b, n, _ => rfl
  | i :: r, b, n, h => by
    have hi := h i (by simp)
    rw [lowGo, lowGo_kinds p q hq r _ _ (fun j hj => h j (by simp [hj])), lowStep_ops, kinds_append, hq _ _ _ hi.1 hi.2]
    unfold countB
    cases hqq : q i.op <;> simp [hqq, List.filter_cons] <;> omega
theorem low_size {pc : Int} {l : List InsIns} (h : blkOkB pc l = true) : kinds outB (blkLower pc l).ops = countB reachB l ∧ kinds (· == 8) (blkLower pc l).ops = countB turnsB l ∧ (blkLower pc l).ops.length ≤ 5 * l.length ∧ 0 < (blkLower pc l).ops.length := by
  have hall : ∀ i, i ∈ l → InsR i ∧ 1 ≤ i.op := fun i hi => by
    obtain ⟨k, hk, rfl⟩ := List.getElem_of_mem hi
    exact okAt_ins h hk
  have e : blkLower pc l = lowGo (lowStart pc l.length) 0 l := by unfold blkLower; rw [if_pos h]
  have h0 : (lowStart pc l.length).ops = [] := rfl
  rw [e]
  refine ⟨?_, ?_, ?_, ?_⟩
  · rw [lowGo_kinds outB reachB (fun n i a _ _ => lowOps_outs n i a) l _ _ hall, h0]; simp [kinds]
  · rw [lowGo_kinds (· == 8) turnsB (fun n i a hi h1 => lowOps_sets n i a (by omega) hi.o0 hi.o1) l _ _ hall, h0]; simp [kinds]
  · have := lowGo_len l (lowStart pc l.length) 0
    rw [h0] at this
    simpa using this
  · have hl := (blkOk_iff.1 h).1
    match l, hl with
    | i :: r, _ =>
      rw [lowGo]
      have : ∀ (r : List InsIns) (b : IrBlock) (n : Nat), b.ops.length ≤ (lowGo b n r).ops.length := by
        intro r
        induction r with
        | nil => intro b n; exact Nat.le_refl _
        | cons j r ih => intro b n; rw [lowGo]; refine Nat.le_trans ?_ (ih _ _); rw [lowStep_ops, List.length_append]; omega
      refine Nat.lt_of_lt_of_le ?_ (this r _ _)
      rw [lowStep_ops, List.length_append]
      have := (lowOps_len (lowStart pc (i :: r).length).ops.length i (0 : Nat)).1
      omega

set_option maxHeartbeats 16000000 in
theorem implIrEvents_any (b : IrBlock) (v : Value) (w : World) (h : Sl w (Old w) v b.ops) (hn : b.ops.length ≤ 1000000000) :
    Calls Tryd.prog 16 #[.agg #[.int .i64 b.pc, .int .i64 b.len, v, .int .i64 b.fin, .int .i64 b.x, .int .i64 b.y, .int .i64 b.k]] w fun e w' => e = .returned (.int .i64 (kinds outB b.ops : Int)) ∧ Ext w w' := by
  obtain ⟨A, c, rfl, hl, hm⟩ := h.form
  unfold maxLen at hm
  have he0 : Ext w (w.alloc (.cells #[.int .i64 b.pc, .int .i64 b.len, .slice A b.ops.length c, .int .i64 b.fin, .int .i64 b.x, .int .i64 b.y, .int .i64 b.k] 34)) := Ext.auto
  go_enter Tryd.func16, Tryd.ntmps16
  go_wp2
  go_loopw [3, 5, 9] (fun vn _ vk wz => ∃ k r : Nat, vn = .int .i64 (r : Int) ∧ vk = .int .i64 (k : Int) ∧ k ≤ b.ops.length ∧ r ≤ k ∧ Hid (r = kinds outB (b.ops.take k)) ∧ Ext w wz) (fun _ _ vk _ => b.ops.length - (intOf vk).toNat)
  case atStart => exact ⟨0, 0, rfl, rfl, by omega, by omega, rfl, he0⟩
  case round =>
    obtain ⟨w1, hwr⟩ : ∃ w1 : World, w1 = wr := ⟨_, rfl⟩
    subst hwr
    obtain ⟨k, r, rfl, rfl, hk, hr, HR, hE⟩ := hrel
    by_cases hlt : k < b.ops.length
    · have HN := hide (kinds_take (p := outB) hlt)
      obtain ⟨bb, off, rfl, hbo, hk0, e0, e1, e2, e3, e4⟩ := at_IrOp (h.ext hE) hlt
      have z0 : (0 : Int) ≤ (k : Int) := by omega
      have z1 : (k : Int) < (b.ops.length : Int) := by omega
      go_upto_region 5 with fail
      generalize ho : Obj.cells #[.int .i64 b.ops[k].kind, .int .i64 b.ops[k].x, .int .i64 b.ops[k].y, .int .i64 b.ops[k].k, .int .i64 b.ops[k].at_] 76 = o
      have hBx : Bx (w1.alloc o) w1.heap.size [.int .i64 b.ops[k].kind, .int .i64 b.ops[k].x, .int .i64 b.ops[k].y, .int .i64 b.ops[k].k, .int .i64 b.ops[k].at_] := by rw [← ho]; exact Bx.new w1 #[.int .i64 b.ops[k].kind, .int .i64 b.ops[k].x, .int .i64 b.ops[k].y, .int .i64 b.ops[k].k, .int .i64 b.ops[k].at_] 76
      have hE2 : Ext w (w1.alloc o) := hE.alloc o
      have hs2 : w1.heap.size + 1 ≤ (w1.alloc o).heap.size := by simp
      generalize w1.alloc o = w2 at *
      clear ho e0 e1 e2 e3 e4
      have yx : w1.heap.size < w2.heap.size := by omega
      have xx0 := hBx 0 _ rfl
      have xx1 := hBx 1 _ rfl
      have xx2 := hBx 2 _ rfl
      have xx3 := hBx 3 _ rfl
      have xx4 := hBx 4 _ rfl
      cases q : outB b.ops[k].kind
      · have HQ := hide (show inB b.ops[k].kind 4 7 = false from q)
        have HM := hide (show r = kinds outB (b.ops.take (k + 1)) by rw [HN.out, q, ← HR.out]; rfl)
        clear q
        go_wp2_with (go_at_call 55; refine (event_any _ _ _ _ _ _).mono ?_; rintro e w3 ⟨rfl, hy⟩; rw [HQ.out])
        go_round
        case rel => exact ⟨k + 1, r, rfl, by go_num, by omega, by omega, HM, hE2.trans hy⟩
        case measure => (simp [intOf]; try omega)
      · have HQ := hide (show inB b.ops[k].kind 4 7 = true from q)
        have HM := hide (show r + 1 = kinds outB (b.ops.take (k + 1)) by rw [HN.out, q, ← HR.out]; rfl)
        clear q
        go_wp2_with (go_at_call 55; refine (event_any _ _ _ _ _ _).mono ?_; rintro e w3 ⟨rfl, hy⟩; rw [HQ.out])
        go_round
        case rel => exact ⟨k + 1, r + 1, by go_num, by go_num, by omega, by omega, HM, hE2.trans hy⟩
        case measure => (simp [intOf]; try omega)
    · obtain rfl : k = b.ops.length := by omega
      have HM := hide (show kinds outB b.ops = r by rw [HR.out, List.take_length])
      go_wp2
      go_ret
      exact ⟨by rw [HM.out]; rfl, hE⟩

set_option maxHeartbeats 16000000 in
theorem laMany_any (b : IrBlock) (kd : Int) (v : Value) (w : World) (h : Sl w (Old w) v b.ops) (hn : b.ops.length ≤ 1000000000) :
    Calls Tryd.prog 17 #[.agg #[.int .i64 b.pc, .int .i64 b.len, v, .int .i64 b.fin, .int .i64 b.x, .int .i64 b.y, .int .i64 b.k], .int .i64 kd] w fun e w' => e = .returned (.int .i64 (kinds (· == kd) b.ops : Int)) ∧ Ext w w' := by
  obtain ⟨A, c, rfl, hl, hm⟩ := h.form
  unfold maxLen at hm
  have he0 : Ext w (w.alloc (.cells #[.int .i64 b.pc, .int .i64 b.len, .slice A b.ops.length c, .int .i64 b.fin, .int .i64 b.x, .int .i64 b.y, .int .i64 b.k] 34)) := Ext.auto
  have hB0 := Bx.new w #[.int .i64 b.pc, .int .i64 b.len, .slice A b.ops.length c, .int .i64 b.fin, .int .i64 b.x, .int .i64 b.y, .int .i64 b.k] 34
  go_enter Tryd.func17, Tryd.ntmps17
  go_upto_region 1 with fail
  have hs0 : w.heap.size + 1 ≤ (w.alloc (.cells #[.int .i64 b.pc, .int .i64 b.len, .slice A b.ops.length c, .int .i64 b.fin, .int .i64 b.x, .int .i64 b.y, .int .i64 b.k] 34)).heap.size := by simp
  generalize (w.alloc (.cells #[.int .i64 b.pc, .int .i64 b.len, .slice A b.ops.length c, .int .i64 b.fin, .int .i64 b.x, .int .i64 b.y, .int .i64 b.k] 34)) = w0 at *
  go_wp2
  go_loopw [5, 6] (fun vn vk wz => ∃ k r : Nat, vn = .int .i64 (r : Int) ∧ vk = .int .i64 (k : Int) ∧ k ≤ b.ops.length ∧ r ≤ k ∧ Hid (r = kinds (· == kd) (b.ops.take k)) ∧ Ext w0 wz) (fun _ vk _ => b.ops.length - (intOf vk).toNat)
  case atStart => exact ⟨0, 0, rfl, rfl, by omega, by omega, rfl, Ext.refl _⟩
  case round =>
    obtain ⟨w1, hwr⟩ : ∃ w1 : World, w1 = wr := ⟨_, rfl⟩
    subst hwr
    obtain ⟨k, r, rfl, rfl, hk, hr, HR, hE⟩ := hrel
    have hsz := hE.size
    have yx : w.heap.size < w1.heap.size := by omega
    have hB1 := hE.bx hB0 (by omega)
    have xx2 := hB1 2 _ rfl
    by_cases hlt : k < b.ops.length
    · have HN := hide (kinds_take (p := (· == kd)) hlt)
      obtain ⟨bb, off, rfl, hbo, hk0, e0, e1, e2, e3, e4⟩ := at_IrOp ((h.ext he0).ext hE) hlt
      have z0 : (0 : Int) ≤ (k : Int) := by omega
      have z1 : (k : Int) < (b.ops.length : Int) := by omega
      cases q : (b.ops[k].kind == kd)
      · have HM := hide (show r = kinds (· == kd) (b.ops.take (k + 1)) by rw [HN.out, q, ← HR.out]; rfl)
        go_wp2
        go_round
        case rel => exact ⟨k + 1, r, rfl, by go_num, by omega, by omega, HM, hE⟩
        case measure => (simp [intOf]; try omega)
      · have HM := hide (show r + 1 = kinds (· == kd) (b.ops.take (k + 1)) by rw [HN.out, q, ← HR.out]; rfl)
        go_wp2
        go_round
        case rel => exact ⟨k + 1, r + 1, by go_num, by go_num, by omega, by omega, HM, hE⟩
        case measure => (simp [intOf]; try omega)
    · obtain rfl : k = b.ops.length := by omega
      have HM := hide (show kinds (· == kd) b.ops = r by rw [HR.out, List.take_length])
      go_wp2
      go_ret
      exact ⟨by rw [HM.out]; rfl, he0.trans hE⟩

end Go.Proofs.YtokibcicoomceaaDoor
