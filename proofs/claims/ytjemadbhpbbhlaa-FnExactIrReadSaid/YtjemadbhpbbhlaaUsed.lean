/-
  Which operations are used.
-/
import Derived.Test.YtjemadbhpbbhlaaEndHas
import Derived.Test.YtjemadbhpbbhlaaRowLib
import Derived.Test.YtjemadbhpbbhlaaClone
import Derived.Deep.DeepCutAuto
namespace Go.Proofs.Ytjemadbhpbbhlaa
open Go.RowKit

set_option linter.unusedVariables false
set_option linter.unusedSimpArgs false
set_option maxRecDepth 100000

theorem infzInt : (Try.prog.info? 3).map (fun i => (i.zero, i.size, i.bytes)) = some (some (.int .i64 0), 1, 8) := by kernel_rfl

theorem infzBool : (Try.prog.info? 4).map (fun i => (i.zero, i.size, i.bytes)) = some (some (.bool false), 1, 1) := by kernel_rfl

set_option maxHeartbeats 16000000 in
theorem used_any (b : IrBlock) (v : Value) (w : World) (h : Sl w (Old w) v b.ops) (hok : irOkB b = true) :
    Calls Try.prog 91 #[.agg #[.int .i64 b.pc, .int .i64 b.len, v, .int .i64 b.fin, .int .i64 b.x, .int .i64 b.y, .int .i64 b.k]] w fun e w' => ∃ r F, e = .returned r ∧ OwnSl w' r (usedB b) F ∧ Fr w w' F ∧ Ext w w' := by
  obtain ⟨Ab1, cb1, rfl, hl, hm⟩ := h.form
  unfold maxLen at hm
  have hn48 := ok_n hok
  obtain ⟨i_m, hi_m, hz0_m, hz1_m, hz2_m⟩ := info_parts infzBool
  have hmk_m : ∀ w : World, (Instr.makeSlice 41 (.int .i64 (b.ops.length : Int)) (.int .i64 (b.ops.length : Int))).run Try.prog w = .ok (.slice (some ⟨w.heap.size, 0, none⟩) b.ops.length b.ops.length) (w.alloc (.cells (madeCells (Value.bool false).cells (b.ops.length * i_m.size)) 4)) :=
    fun w => run_make_rowN 41 4 i_m _ Try.underlying41 hi_m hz0_m _ _ (b.ops.length) (b.ops.length) (Nat.le_refl _) (by rw [hz2_m]; omega) (by omega) w
  have HM_m := hide (show b.ops.length * i_m.size = b.ops.length by rw [show i_m.size = 1 from hz1_m]; try omega)
  clear hi_m hz0_m hz1_m hz2_m
  go_enter Try.func91, Try.ntmps91
  have he0 : Ext w w := Ext.refl _
  have hs0 : w.heap.size ≤ w.heap.size := Nat.le_refl _
  have hq0 := hide (rfl : w.heap.size = w.heap.size)
  go_wp2_with fail
  have he1 : Ext w ((w.alloc (Obj.cells #[.int .i64 b.pc, .int .i64 b.len, (.slice Ab1 b.ops.length cb1), .int .i64 b.fin, .int .i64 b.x, .int .i64 b.y, .int .i64 b.k] 30)).alloc (.cells (madeCells #[Value.bool false] (b.ops.length * i_m.size)) 4)) := (Ext.hold he0)
  have hs1 : w.heap.size + 2 ≤ (((w.alloc (Obj.cells #[.int .i64 b.pc, .int .i64 b.len, (.slice Ab1 b.ops.length cb1), .int .i64 b.fin, .int .i64 b.x, .int .i64 b.y, .int .i64 b.k] 30)).alloc (.cells (madeCells #[Value.bool false] (b.ops.length * i_m.size)) 4))).heap.size := by simp
  have hq1 := hide (show (((w.alloc (Obj.cells #[.int .i64 b.pc, .int .i64 b.len, (.slice Ab1 b.ops.length cb1), .int .i64 b.fin, .int .i64 b.x, .int .i64 b.y, .int .i64 b.k] 30)).alloc (.cells (madeCells #[Value.bool false] (b.ops.length * i_m.size)) 4))).heap.size = w.heap.size + 2 by simp)
  have hRg_1 : FRow (((w.alloc (Obj.cells #[.int .i64 b.pc, .int .i64 b.len, (.slice Ab1 b.ops.length cb1), .int .i64 b.fin, .int .i64 b.x, .int .i64 b.y, .int .i64 b.k] 30)).alloc (.cells (madeCells #[Value.bool false] (b.ops.length * i_m.size)) 4))) (w.heap.size + 1) 0 (List.replicate b.ops.length false) := (by have := FRow.make (α := Bool) (w.alloc (Obj.cells #[.int .i64 b.pc, .int .i64 b.len, (.slice Ab1 b.ops.length cb1), .int .i64 b.fin, .int .i64 b.x, .int .i64 b.y, .int .i64 b.k] 30)) (Value.bool false) 4 (b.ops.length) false rfl rfl HM_m.out; simpa using this)
  have hBb_1 : Bx (((w.alloc (Obj.cells #[.int .i64 b.pc, .int .i64 b.len, (.slice Ab1 b.ops.length cb1), .int .i64 b.fin, .int .i64 b.x, .int .i64 b.y, .int .i64 b.k] 30)).alloc (.cells (madeCells #[Value.bool false] (b.ops.length * i_m.size)) 4))) (w.heap.size) [.int .i64 b.pc, .int .i64 b.len, (.slice Ab1 b.ops.length cb1), .int .i64 b.fin, .int .i64 b.x, .int .i64 b.y, .int .i64 b.k] := by intro j u hj; have hj' : j < 7 := (List.getElem?_eq_some_iff.1 hj).1; (have hqq := hq0.out); (try have hqp := hq0.out); first | (simp at hj ⊢; simp_all; done) | (rcases j with _ | _ | _ | _ | _ | _ | _ | _ | j <;> simp at hj ⊢ <;> simp_all)
  have hFb_1 : ∀ oo, (((w.alloc (Obj.cells #[.int .i64 b.pc, .int .i64 b.len, (.slice Ab1 b.ops.length cb1), .int .i64 b.fin, .int .i64 b.x, .int .i64 b.y, .int .i64 b.k] 30)).alloc (.cells (madeCells #[Value.bool false] (b.ops.length * i_m.size)) 4))).frozen? ⟨w.heap.size, oo, none⟩ = false := fun oo => by simp
  generalize ((w.alloc (Obj.cells #[.int .i64 b.pc, .int .i64 b.len, (.slice Ab1 b.ops.length cb1), .int .i64 b.fin, .int .i64 b.x, .int .i64 b.y, .int .i64 b.k] 30)).alloc (.cells (madeCells #[Value.bool false] (b.ops.length * i_m.size)) 4)) = w1 at *
  refine (endHas_any b _ _ (h.ext he1)).mono ?_
  rintro e w2 ⟨rfl, hy⟩
  have hx2 : Ext w1 w2 := Ext.trans (Ext.auto) hy
  have hs2 := hx2.size
  have he2 : Ext w w2 := he1.trans hx2
  have hBb_2 : Bx w2 (w.heap.size) [.int .i64 b.pc, .int .i64 b.len, (.slice Ab1 b.ops.length cb1), .int .i64 b.fin, .int .i64 b.x, .int .i64 b.y, .int .i64 b.k] := hx2.bx hBb_1 (by omega)
  have hFb_2 : ∀ oo, w2.frozen? ⟨w.heap.size, oo, none⟩ = false := fun oo => (hx2.frozen (by omega)).trans (hFb_1 oo)
  clear hBb_1 hFb_1
  have hRg_2 : FRow w2 (w.heap.size + 1) 0 (List.replicate b.ops.length false) := hRg_1.ext hx2
  clear hRg_1
  clear hy
  have hI3 := fun q => end_x (ok_end hok) q
  have hI5 := fun q => end_y (ok_end hok) q
  have HL3 := hide (show (List.replicate b.ops.length false).length = b.ops.length by simp)
  have HL5 := hide (show (mark (List.replicate b.ops.length false) (endX b.fin) b.x).length = b.ops.length by rw [mark_length]; simp)
  have HE := hide (show usedB b = usedGo b.ops b.ops.length (usedEnd b (List.replicate b.ops.length false)) from rfl)
  go_upto_if 23 with fail
  go_cut [4] (fun s4 wx => Ext w wx ∧ w2.heap.size ≤ wx.heap.size ∧ Bx wx (w.heap.size) [.int .i64 b.pc, .int .i64 b.len, (.slice Ab1 b.ops.length cb1), .int .i64 b.fin, .int .i64 b.x, .int .i64 b.y, .int .i64 b.k] ∧ (∀ oo, wx.frozen? ⟨w.heap.size, oo, none⟩ = false) ∧ FRow wx (w.heap.size + 1) 0 (mark (List.replicate b.ops.length false) (endX b.fin) (b.x)))
  case first =>
    cases hp : endX b.fin
    · go_wp2_with fail
      have e : mark (List.replicate b.ops.length false) (endX b.fin) (b.x) = List.replicate b.ops.length false := by unfold mark; rw [hp]; rfl
      go_meet
      exact ⟨(Ext.hold he2), (by first | omega | (simp; done) | (simp; omega)), (Bx.hold hBb_2), (fz_hold hFb_2), (by rw [e]; exact hRg_2)⟩
    · have hi := hI3 hp
      have hi0 := hi.1
      have hi1 := hi.2
      have hin : (b.x).toNat < (List.replicate b.ops.length false).length := by rw [HL3.out]; omega
      have yb : w.heap.size < w2.heap.size := by omega
      have xb0 := hBb_2 0 _ rfl
      have xb1 := hBb_2 1 _ rfl
      have xb2 := hBb_2 2 _ rfl
      have xb3 := hBb_2 3 _ rfl
      have xb4 := hBb_2 4 _ rfl
      have xb5 := hBb_2 5 _ rfl
      have xb6 := hBb_2 6 _ rfl
      have gc := hRg_2.bool0 (i := (b.x).toNat) (hin)
      have zgc := hRg_2.fz
      have ygc : w.heap.size + 1 < w2.heap.size := hRg_2.lt
      go_wp2_with fail
      have e : mark (List.replicate b.ops.length false) (endX b.fin) (b.x) = (List.replicate b.ops.length false).set (b.x).toNat true := by unfold mark; rw [hp]; rfl
      go_meet
      exact ⟨(Ext.hold he2), (by first | omega | (simp; done) | (simp; omega)), (Bx.hold hBb_2), (fz_hold hFb_2), (by rw [e]; exact hRg_2.setBool0 hin true)⟩
  case rest =>
    obtain ⟨he3, hs3, hBb_3, hFb_3, hRg_3⟩ := hcut
    obtain ⟨w3, hwc⟩ : ∃ w3 : World, w3 = wc := ⟨_, rfl⟩
    subst hwc
    clear hBb_2 hFb_2 hRg_2
    go_upto_if 28 with fail
    go_cut [5] (fun s5 wx => Ext w wx ∧ w3.heap.size ≤ wx.heap.size ∧ Bx wx (w.heap.size) [.int .i64 b.pc, .int .i64 b.len, (.slice Ab1 b.ops.length cb1), .int .i64 b.fin, .int .i64 b.x, .int .i64 b.y, .int .i64 b.k] ∧ (∀ oo, wx.frozen? ⟨w.heap.size, oo, none⟩ = false) ∧ FRow wx (w.heap.size + 1) 0 (mark (mark (List.replicate b.ops.length false) (endX b.fin) (b.x)) (endY b.fin) (b.y)))
    case first =>
      cases hp : endY b.fin
      · go_wp2_with fail
        have e : mark (mark (List.replicate b.ops.length false) (endX b.fin) (b.x)) (endY b.fin) (b.y) = mark (List.replicate b.ops.length false) (endX b.fin) (b.x) := by unfold mark; rw [hp]; rfl
        go_meet
        exact ⟨(Ext.hold he3), (by first | omega | (simp; done) | (simp; omega)), (Bx.hold hBb_3), (fz_hold hFb_3), (by rw [e]; exact hRg_3)⟩
      · have hi := hI5 hp
        have hi0 := hi.1
        have hi1 := hi.2
        have hin : (b.y).toNat < (mark (List.replicate b.ops.length false) (endX b.fin) (b.x)).length := by rw [HL5.out]; omega
        have yb : w.heap.size < w3.heap.size := by omega
        have xb0 := hBb_3 0 _ rfl
        have xb1 := hBb_3 1 _ rfl
        have xb2 := hBb_3 2 _ rfl
        have xb3 := hBb_3 3 _ rfl
        have xb4 := hBb_3 4 _ rfl
        have xb5 := hBb_3 5 _ rfl
        have xb6 := hBb_3 6 _ rfl
        have gc := hRg_3.bool0 (i := (b.y).toNat) (hin)
        have zgc := hRg_3.fz
        have ygc : w.heap.size + 1 < w3.heap.size := hRg_3.lt
        go_wp2_with fail
        have e : mark (mark (List.replicate b.ops.length false) (endX b.fin) (b.x)) (endY b.fin) (b.y) = (mark (List.replicate b.ops.length false) (endX b.fin) (b.x)).set (b.y).toNat true := by unfold mark; rw [hp]; rfl
        go_meet
        exact ⟨(Ext.hold he3), (by first | omega | (simp; done) | (simp; omega)), (Bx.hold hBb_3), (fz_hold hFb_3), (by rw [e]; exact hRg_3.setBool0 hin true)⟩
    case rest =>
      obtain ⟨he4, hs4, hBb_4, hFb_4, hRg_4⟩ := hcut
      obtain ⟨w4, hwc⟩ : ∃ w4 : World, w4 = wc := ⟨_, rfl⟩
      subst hwc
      clear hBb_3 hFb_3 hRg_3
      have yb : w.heap.size < w4.heap.size := by omega
      have xb0 := hBb_4 0 _ rfl
      have xb1 := hBb_4 1 _ rfl
      have xb2 := hBb_4 2 _ rfl
      have xb3 := hBb_4 3 _ rfl
      have xb4 := hBb_4 4 _ rfl
      have xb5 := hBb_4 5 _ rfl
      have xb6 := hBb_4 6 _ rfl
      go_wp2_with fail
      clear xb0 xb1 xb2 xb3 xb4 xb5 xb6 yb
      go_loopw [7] (fun i w5 => ∃ (k : Nat) (l : List Bool), k ≤ b.ops.length ∧ i = .int .i64 ((k : Int) - 1) ∧ l.length = b.ops.length ∧ Hid (usedGo b.ops k l = usedB b) ∧ Ext w w5 ∧ w4.heap.size ≤ w5.heap.size ∧ Bx w5 (w.heap.size) [.int .i64 b.pc, .int .i64 b.len, (.slice Ab1 b.ops.length cb1), .int .i64 b.fin, .int .i64 b.x, .int .i64 b.y, .int .i64 b.k] ∧ (∀ oo, w5.frozen? ⟨w.heap.size, oo, none⟩ = false) ∧ FRow w5 (w.heap.size + 1) 0 (l)) (fun i _ => (intOf i + 1).toNat)
      case atStart => exact ⟨b.ops.length, mark (mark (List.replicate b.ops.length false) (endX b.fin) (b.x)) (endY b.fin) (b.y), Nat.le_refl _, rfl, by simp [mark_length], HE.out.symm, he4, Nat.le_refl _, hBb_4, hFb_4, hRg_4⟩
      case round =>
        obtain ⟨w5, hwr⟩ : ∃ w5 : World, w5 = wr := ⟨_, rfl⟩
        subst hwr
        obtain ⟨k, l, hk, rfl, hll, HG, he5, hs5, hBb_5, hFb_5, hRg_5⟩ := hrel
        rcases k with _ | m
        · go_wp2
          go_ret
          obtain ⟨F, ho, hf⟩ := hRg_5.own (n := b.ops.length) (c := b.ops.length) (w0 := w) (by rw [hll]) (by omega) (by unfold maxLen; omega) (by omega)
          exact ⟨_, F, rfl, by rw [← HG.out]; exact ho, hf, he5⟩
        · have hlt : m < b.ops.length := by omega
          rw [show (((m + 1 : Nat) : Int) - 1) = (m : Int) by omega]
          have z0 : (0 : Int) ≤ (m : Int) := by omega
          have z1 : (m : Int) < (b.ops.length : Int) := by omega
          have hin : m < l.length := by omega
          obtain ⟨bb, off, rfl, hbo, hk0, e0, e1, e2, e3, e4⟩ := at_IrOp (h.ext he5) hlt
          have hbl : bb < w5.heap.size := hbo
          have KD := op_kind (ok_ops hok m hlt)
          have KD1 := KD.1
          have KD2 := KD.2
          have hIx := fun q => op_x (ok_ops hok m hlt) q
          have hIy := fun q => op_y (ok_ops hok m hlt) q
          have HG1 := HG.out
          rw [usedGo_succ _ _ _ hlt] at HG1
          have HGS := hide HG1
          clear HG1
          cases hq : l[m]
          · by_cases hk4 : 4 ≤ b.ops[m].kind
            · 
              have yb : w.heap.size < w5.heap.size := by omega
              have xb0 := hBb_5 0 _ rfl
              have xb1 := hBb_5 1 _ rfl
              have xb2 := hBb_5 2 _ rfl
              have xb3 := hBb_5 3 _ rfl
              have xb4 := hBb_5 4 _ rfl
              have xb5 := hBb_5 5 _ rfl
              have xb6 := hBb_5 6 _ rfl
              have gc := hRg_5.bool0 (i := m) (hin)
              have zgc := hRg_5.fz
              have ygc : w.heap.size + 1 < w5.heap.size := hRg_5.lt
              rw [hq] at gc
              have hk3 : decide (4 ≤ b.ops[m].kind) = true := decide_eq_true hk4
              have HV := hide (show (gB l m || decide (4 ≤ b.ops[m].kind)) = true by rw [gB_at l m hin, hq, decide_eq_true hk4]; rfl)
              go_wp2_with fail
              clear xb0 xb1 xb2 xb3 xb4 xb5 xb6 yb
              clear gc zgc ygc
              have he6 : Ext w ((w5.setCell ⟨w.heap.size + 1, m, none⟩ (.bool true)).alloc (Obj.cells #[.int .i64 (b.ops[m].kind), .int .i64 (b.ops[m].x), .int .i64 (b.ops[m].y), .int .i64 (b.ops[m].k), .int .i64 (b.ops[m].at_)] 92)) := (Ext.hold he5)
              have hs6 : w5.heap.size + 1 ≤ (((w5.setCell ⟨w.heap.size + 1, m, none⟩ (.bool true)).alloc (Obj.cells #[.int .i64 (b.ops[m].kind), .int .i64 (b.ops[m].x), .int .i64 (b.ops[m].y), .int .i64 (b.ops[m].k), .int .i64 (b.ops[m].at_)] 92))).heap.size := by simp
              have hq6 := hide (show (((w5.setCell ⟨w.heap.size + 1, m, none⟩ (.bool true)).alloc (Obj.cells #[.int .i64 (b.ops[m].kind), .int .i64 (b.ops[m].x), .int .i64 (b.ops[m].y), .int .i64 (b.ops[m].k), .int .i64 (b.ops[m].at_)] 92))).heap.size = w5.heap.size + 1 by simp)
              have hltg_6 : w.heap.size + 1 < w5.heap.size := hRg_5.lt
              have hBb_6 : Bx (((w5.setCell ⟨w.heap.size + 1, m, none⟩ (.bool true)).alloc (Obj.cells #[.int .i64 (b.ops[m].kind), .int .i64 (b.ops[m].x), .int .i64 (b.ops[m].y), .int .i64 (b.ops[m].k), .int .i64 (b.ops[m].at_)] 92))) (w.heap.size) [.int .i64 b.pc, .int .i64 b.len, (.slice (some ⟨bb, off, none⟩) b.ops.length cb1), .int .i64 b.fin, .int .i64 b.x, .int .i64 b.y, .int .i64 b.k] := Bx.hold hBb_5
              have hFb_6 : ∀ oo, (((w5.setCell ⟨w.heap.size + 1, m, none⟩ (.bool true)).alloc (Obj.cells #[.int .i64 (b.ops[m].kind), .int .i64 (b.ops[m].x), .int .i64 (b.ops[m].y), .int .i64 (b.ops[m].k), .int .i64 (b.ops[m].at_)] 92))).frozen? ⟨w.heap.size, oo, none⟩ = false := (fz_hold hFb_5)
              have hRg_6 : FRow (((w5.setCell ⟨w.heap.size + 1, m, none⟩ (.bool true)).alloc (Obj.cells #[.int .i64 (b.ops[m].kind), .int .i64 (b.ops[m].x), .int .i64 (b.ops[m].y), .int .i64 (b.ops[m].k), .int .i64 (b.ops[m].at_)] 92))) (w.heap.size + 1) 0 (l.set m true) := ((hRg_5.setBool0 hin true).alloc _)
              have hBo_6 : Bx (((w5.setCell ⟨w.heap.size + 1, m, none⟩ (.bool true)).alloc (Obj.cells #[.int .i64 (b.ops[m].kind), .int .i64 (b.ops[m].x), .int .i64 (b.ops[m].y), .int .i64 (b.ops[m].k), .int .i64 (b.ops[m].at_)] 92))) (w5.heap.size) [.int .i64 (b.ops[m].kind), .int .i64 (b.ops[m].x), .int .i64 (b.ops[m].y), .int .i64 (b.ops[m].k), .int .i64 (b.ops[m].at_)] := (by have := Bx.new (w5.setCell ⟨w.heap.size + 1, m, none⟩ (.bool true)) #[.int .i64 (b.ops[m].kind), .int .i64 (b.ops[m].x), .int .i64 (b.ops[m].y), .int .i64 (b.ops[m].k), .int .i64 (b.ops[m].at_)] 92; simpa using this)
              have hFo_6 : ∀ oo, (((w5.setCell ⟨w.heap.size + 1, m, none⟩ (.bool true)).alloc (Obj.cells #[.int .i64 (b.ops[m].kind), .int .i64 (b.ops[m].x), .int .i64 (b.ops[m].y), .int .i64 (b.ops[m].k), .int .i64 (b.ops[m].at_)] 92))).frozen? ⟨w5.heap.size, oo, none⟩ = false := by first | (exact fz_new _ _ _ (by first | rfl | simp)) | (intro oo; simp)
              generalize ((w5.setCell ⟨w.heap.size + 1, m, none⟩ (.bool true)).alloc (Obj.cells #[.int .i64 (b.ops[m].kind), .int .i64 (b.ops[m].x), .int .i64 (b.ops[m].y), .int .i64 (b.ops[m].k), .int .i64 (b.ops[m].at_)] 92)) = w6 at *
              clear hBb_5 hFb_5 hRg_5
              clear hbl hbo e0 e1 e2 e3 e4
              refine (has_any _ _ _ _ _ _ KD1 KD2).mono ?_
              rintro e w7 ⟨rfl, hy⟩
              have hx7 : Ext w6 w7 := Ext.trans (Ext.auto) hy
              have hs7 := hx7.size
              have he7 : Ext w w7 := he6.trans hx7
              have hBb_7 : Bx w7 (w.heap.size) [.int .i64 b.pc, .int .i64 b.len, (.slice (some ⟨bb, off, none⟩) b.ops.length cb1), .int .i64 b.fin, .int .i64 b.x, .int .i64 b.y, .int .i64 b.k] := hx7.bx hBb_6 (by omega)
              have hFb_7 : ∀ oo, w7.frozen? ⟨w.heap.size, oo, none⟩ = false := fun oo => (hx7.frozen (by omega)).trans (hFb_6 oo)
              have hBo_7 : Bx w7 (w5.heap.size) [.int .i64 (b.ops[m].kind), .int .i64 (b.ops[m].x), .int .i64 (b.ops[m].y), .int .i64 (b.ops[m].k), .int .i64 (b.ops[m].at_)] := hx7.bx hBo_6 (by omega)
              have hFo_7 : ∀ oo, w7.frozen? ⟨w5.heap.size, oo, none⟩ = false := fun oo => (hx7.frozen (by omega)).trans (hFo_6 oo)
              clear hBb_6 hFb_6 hBo_6 hFo_6
              have hRg_7 : FRow w7 (w.heap.size + 1) 0 (l.set m true) := hRg_6.ext hx7
              clear hRg_6
              clear hy
              have HLx := hide (show (l.set m true).length = b.ops.length by simp [hll])
              have HLy := hide (show (mark (l.set m true) (hasX b.ops[m].kind) b.ops[m].x).length = b.ops.length by rw [mark_length]; simp [hll])
              have hIx2 := fun q => (⟨(hIx q).1, by have := (hIx q).2; omega⟩ : 0 ≤ b.ops[m].x ∧ b.ops[m].x < (b.ops.length : Int))
              have hIy2 := fun q => (⟨(hIy q).1, by have := (hIy q).2; omega⟩ : 0 ≤ b.ops[m].y ∧ b.ops[m].y < (b.ops.length : Int))
              clear hIx hIy
              have hIx := hIx2
              have hIy := hIy2
              clear hIx2 hIy2
              go_upto_if 70 with fail
              go_cut [9] (fun s9 wx => Ext w wx ∧ w7.heap.size ≤ wx.heap.size ∧ Bx wx (w.heap.size) [.int .i64 b.pc, .int .i64 b.len, (.slice (some ⟨bb, off, none⟩) b.ops.length cb1), .int .i64 b.fin, .int .i64 b.x, .int .i64 b.y, .int .i64 b.k] ∧ (∀ oo, wx.frozen? ⟨w.heap.size, oo, none⟩ = false) ∧ Bx wx (w5.heap.size) [.int .i64 (b.ops[m].kind), .int .i64 (b.ops[m].x), .int .i64 (b.ops[m].y), .int .i64 (b.ops[m].k), .int .i64 (b.ops[m].at_)] ∧ (∀ oo, wx.frozen? ⟨w5.heap.size, oo, none⟩ = false) ∧ FRow wx (w.heap.size + 1) 0 (mark (l.set m true) (hasX b.ops[m].kind) (b.ops[m].x)))
              case first =>
                cases hp : hasX b.ops[m].kind
                · go_wp2_with fail
                  have e : mark (l.set m true) (hasX b.ops[m].kind) (b.ops[m].x) = l.set m true := by unfold mark; rw [hp]; rfl
                  go_meet
                  exact ⟨(Ext.hold he7), (by first | omega | (simp; done) | (simp; omega)), (Bx.hold hBb_7), (fz_hold hFb_7), (Bx.hold hBo_7), (fz_hold hFo_7), (by rw [e]; exact hRg_7)⟩
                · have hi := hIx hp
                  have hi0 := hi.1
                  have hi1 := hi.2
                  have hin : (b.ops[m].x).toNat < (l.set m true).length := by rw [HLx.out]; omega
                  have yo : w5.heap.size < w7.heap.size := by omega
                  have xo0 := hBo_7 0 _ rfl
                  have xo1 := hBo_7 1 _ rfl
                  have xo2 := hBo_7 2 _ rfl
                  have xo3 := hBo_7 3 _ rfl
                  have xo4 := hBo_7 4 _ rfl
                  have gc := hRg_7.bool0 (i := (b.ops[m].x).toNat) (hin)
                  have zgc := hRg_7.fz
                  have ygc : w.heap.size + 1 < w7.heap.size := hRg_7.lt
                  go_wp2_with fail
                  have e : mark (l.set m true) (hasX b.ops[m].kind) (b.ops[m].x) = (l.set m true).set (b.ops[m].x).toNat true := by unfold mark; rw [hp]; rfl
                  go_meet
                  exact ⟨(Ext.hold he7), (by first | omega | (simp; done) | (simp; omega)), (Bx.hold hBb_7), (fz_hold hFb_7), (Bx.hold hBo_7), (fz_hold hFo_7), (by rw [e]; exact hRg_7.setBool0 hin true)⟩
              case rest =>
                obtain ⟨he8, hs8, hBb_8, hFb_8, hBo_8, hFo_8, hRg_8⟩ := hcut
                obtain ⟨w8, hwc⟩ : ∃ w8 : World, w8 = wc := ⟨_, rfl⟩
                subst hwc
                clear hBb_7 hFb_7 hBo_7 hFo_7 hRg_7
                cases hp : hasY b.ops[m].kind
                · go_wp2_with fail
                  have e : mark (mark (l.set m true) (hasX b.ops[m].kind) (b.ops[m].x)) (hasY b.ops[m].kind) (b.ops[m].y) = mark (l.set m true) (hasX b.ops[m].kind) (b.ops[m].x) := by unfold mark; rw [hp]; rfl
                  go_roundw
                  case rel => exact ⟨m, mark (mark (l.set m true) (hasX b.ops[m].kind) (b.ops[m].x)) (hasY b.ops[m].kind) (b.ops[m].y), by omega, by go_num, by rw [mark_length, mark_length]; simp [hll], by have h1 := HGS.out; rw [usedStep_yes HV.out] at h1; exact h1, (Ext.hold he8), (by first | omega | (simp; omega)), (Bx.hold hBb_8), (fz_hold hFb_8), (by rw [e]; exact hRg_8)⟩
                  case measure => (simp [intOf]; try omega)
                · have hi := hIy hp
                  have hi0 := hi.1
                  have hi1 := hi.2
                  have hin : (b.ops[m].y).toNat < (mark (l.set m true) (hasX b.ops[m].kind) (b.ops[m].x)).length := by rw [HLy.out]; omega
                  have yo : w5.heap.size < w8.heap.size := by omega
                  have xo0 := hBo_8 0 _ rfl
                  have xo1 := hBo_8 1 _ rfl
                  have xo2 := hBo_8 2 _ rfl
                  have xo3 := hBo_8 3 _ rfl
                  have xo4 := hBo_8 4 _ rfl
                  have gc := hRg_8.bool0 (i := (b.ops[m].y).toNat) (hin)
                  have zgc := hRg_8.fz
                  have ygc : w.heap.size + 1 < w8.heap.size := hRg_8.lt
                  go_wp2_with fail
                  have e : mark (mark (l.set m true) (hasX b.ops[m].kind) (b.ops[m].x)) (hasY b.ops[m].kind) (b.ops[m].y) = (mark (l.set m true) (hasX b.ops[m].kind) (b.ops[m].x)).set (b.ops[m].y).toNat true := by unfold mark; rw [hp]; rfl
                  go_roundw
                  case rel => exact ⟨m, mark (mark (l.set m true) (hasX b.ops[m].kind) (b.ops[m].x)) (hasY b.ops[m].kind) (b.ops[m].y), by omega, by go_num, by rw [mark_length, mark_length]; simp [hll], by have h1 := HGS.out; rw [usedStep_yes HV.out] at h1; exact h1, (Ext.hold he8), (by first | omega | (simp; omega)), (Bx.hold hBb_8), (fz_hold hFb_8), (by rw [e]; exact hRg_8.setBool0 hin true)⟩
                  case measure => (simp [intOf]; try omega)
            · 
              have yb : w.heap.size < w5.heap.size := by omega
              have xb0 := hBb_5 0 _ rfl
              have xb1 := hBb_5 1 _ rfl
              have xb2 := hBb_5 2 _ rfl
              have xb3 := hBb_5 3 _ rfl
              have xb4 := hBb_5 4 _ rfl
              have xb5 := hBb_5 5 _ rfl
              have xb6 := hBb_5 6 _ rfl
              have gc := hRg_5.bool0 (i := m) (hin)
              have zgc := hRg_5.fz
              have ygc : w.heap.size + 1 < w5.heap.size := hRg_5.lt
              rw [hq] at gc
              have HV := hide (show (gB l m || decide (4 ≤ b.ops[m].kind)) = false by rw [gB_at l m hin, hq, decide_eq_false hk4]; rfl)
              have hk3 : decide (4 ≤ b.ops[m].kind) = false := decide_eq_false hk4
              go_wp2_with fail
              go_roundw
              case rel => exact ⟨m, l.set m false, by omega, by go_num, by simp [hll], by have h1 := HGS.out; rw [usedStep_no HV.out] at h1; exact h1, (Ext.hold he5), (by first | omega | (simp; omega)), (Bx.hold hBb_5), (fz_hold hFb_5), ((hRg_5.setBool0 hin false).alloc _)⟩
              case measure => (simp [intOf]; try omega)
          · 
            have yb : w.heap.size < w5.heap.size := by omega
            have xb0 := hBb_5 0 _ rfl
            have xb1 := hBb_5 1 _ rfl
            have xb2 := hBb_5 2 _ rfl
            have xb3 := hBb_5 3 _ rfl
            have xb4 := hBb_5 4 _ rfl
            have xb5 := hBb_5 5 _ rfl
            have xb6 := hBb_5 6 _ rfl
            have gc := hRg_5.bool0 (i := m) (hin)
            have zgc := hRg_5.fz
            have ygc : w.heap.size + 1 < w5.heap.size := hRg_5.lt
            rw [hq] at gc
            have HV := hide (show (gB l m || decide (4 ≤ b.ops[m].kind)) = true by rw [gB_at l m hin, hq]; rfl)
            go_wp2_with fail
            clear xb0 xb1 xb2 xb3 xb4 xb5 xb6 yb
            clear gc zgc ygc
            have he6 : Ext w ((w5.setCell ⟨w.heap.size + 1, m, none⟩ (.bool true)).alloc (Obj.cells #[.int .i64 (b.ops[m].kind), .int .i64 (b.ops[m].x), .int .i64 (b.ops[m].y), .int .i64 (b.ops[m].k), .int .i64 (b.ops[m].at_)] 92)) := (Ext.hold he5)
            have hs6 : w5.heap.size + 1 ≤ (((w5.setCell ⟨w.heap.size + 1, m, none⟩ (.bool true)).alloc (Obj.cells #[.int .i64 (b.ops[m].kind), .int .i64 (b.ops[m].x), .int .i64 (b.ops[m].y), .int .i64 (b.ops[m].k), .int .i64 (b.ops[m].at_)] 92))).heap.size := by simp
            have hq6 := hide (show (((w5.setCell ⟨w.heap.size + 1, m, none⟩ (.bool true)).alloc (Obj.cells #[.int .i64 (b.ops[m].kind), .int .i64 (b.ops[m].x), .int .i64 (b.ops[m].y), .int .i64 (b.ops[m].k), .int .i64 (b.ops[m].at_)] 92))).heap.size = w5.heap.size + 1 by simp)
            have hltg_6 : w.heap.size + 1 < w5.heap.size := hRg_5.lt
            have hBb_6 : Bx (((w5.setCell ⟨w.heap.size + 1, m, none⟩ (.bool true)).alloc (Obj.cells #[.int .i64 (b.ops[m].kind), .int .i64 (b.ops[m].x), .int .i64 (b.ops[m].y), .int .i64 (b.ops[m].k), .int .i64 (b.ops[m].at_)] 92))) (w.heap.size) [.int .i64 b.pc, .int .i64 b.len, (.slice (some ⟨bb, off, none⟩) b.ops.length cb1), .int .i64 b.fin, .int .i64 b.x, .int .i64 b.y, .int .i64 b.k] := Bx.hold hBb_5
            have hFb_6 : ∀ oo, (((w5.setCell ⟨w.heap.size + 1, m, none⟩ (.bool true)).alloc (Obj.cells #[.int .i64 (b.ops[m].kind), .int .i64 (b.ops[m].x), .int .i64 (b.ops[m].y), .int .i64 (b.ops[m].k), .int .i64 (b.ops[m].at_)] 92))).frozen? ⟨w.heap.size, oo, none⟩ = false := (fz_hold hFb_5)
            have hRg_6 : FRow (((w5.setCell ⟨w.heap.size + 1, m, none⟩ (.bool true)).alloc (Obj.cells #[.int .i64 (b.ops[m].kind), .int .i64 (b.ops[m].x), .int .i64 (b.ops[m].y), .int .i64 (b.ops[m].k), .int .i64 (b.ops[m].at_)] 92))) (w.heap.size + 1) 0 (l.set m true) := ((hRg_5.setBool0 hin true).alloc _)
            have hBo_6 : Bx (((w5.setCell ⟨w.heap.size + 1, m, none⟩ (.bool true)).alloc (Obj.cells #[.int .i64 (b.ops[m].kind), .int .i64 (b.ops[m].x), .int .i64 (b.ops[m].y), .int .i64 (b.ops[m].k), .int .i64 (b.ops[m].at_)] 92))) (w5.heap.size) [.int .i64 (b.ops[m].kind), .int .i64 (b.ops[m].x), .int .i64 (b.ops[m].y), .int .i64 (b.ops[m].k), .int .i64 (b.ops[m].at_)] := (by have := Bx.new (w5.setCell ⟨w.heap.size + 1, m, none⟩ (.bool true)) #[.int .i64 (b.ops[m].kind), .int .i64 (b.ops[m].x), .int .i64 (b.ops[m].y), .int .i64 (b.ops[m].k), .int .i64 (b.ops[m].at_)] 92; simpa using this)
            have hFo_6 : ∀ oo, (((w5.setCell ⟨w.heap.size + 1, m, none⟩ (.bool true)).alloc (Obj.cells #[.int .i64 (b.ops[m].kind), .int .i64 (b.ops[m].x), .int .i64 (b.ops[m].y), .int .i64 (b.ops[m].k), .int .i64 (b.ops[m].at_)] 92))).frozen? ⟨w5.heap.size, oo, none⟩ = false := by first | (exact fz_new _ _ _ (by first | rfl | simp)) | (intro oo; simp)
            generalize ((w5.setCell ⟨w.heap.size + 1, m, none⟩ (.bool true)).alloc (Obj.cells #[.int .i64 (b.ops[m].kind), .int .i64 (b.ops[m].x), .int .i64 (b.ops[m].y), .int .i64 (b.ops[m].k), .int .i64 (b.ops[m].at_)] 92)) = w6 at *
            clear hBb_5 hFb_5 hRg_5
            clear hbl hbo e0 e1 e2 e3 e4
            refine (has_any _ _ _ _ _ _ KD1 KD2).mono ?_
            rintro e w7 ⟨rfl, hy⟩
            have hx7 : Ext w6 w7 := Ext.trans (Ext.auto) hy
            have hs7 := hx7.size
            have he7 : Ext w w7 := he6.trans hx7
            have hBb_7 : Bx w7 (w.heap.size) [.int .i64 b.pc, .int .i64 b.len, (.slice (some ⟨bb, off, none⟩) b.ops.length cb1), .int .i64 b.fin, .int .i64 b.x, .int .i64 b.y, .int .i64 b.k] := hx7.bx hBb_6 (by omega)
            have hFb_7 : ∀ oo, w7.frozen? ⟨w.heap.size, oo, none⟩ = false := fun oo => (hx7.frozen (by omega)).trans (hFb_6 oo)
            have hBo_7 : Bx w7 (w5.heap.size) [.int .i64 (b.ops[m].kind), .int .i64 (b.ops[m].x), .int .i64 (b.ops[m].y), .int .i64 (b.ops[m].k), .int .i64 (b.ops[m].at_)] := hx7.bx hBo_6 (by omega)
            have hFo_7 : ∀ oo, w7.frozen? ⟨w5.heap.size, oo, none⟩ = false := fun oo => (hx7.frozen (by omega)).trans (hFo_6 oo)
            clear hBb_6 hFb_6 hBo_6 hFo_6
            have hRg_7 : FRow w7 (w.heap.size + 1) 0 (l.set m true) := hRg_6.ext hx7
            clear hRg_6
            clear hy
            have HLx := hide (show (l.set m true).length = b.ops.length by simp [hll])
            have HLy := hide (show (mark (l.set m true) (hasX b.ops[m].kind) b.ops[m].x).length = b.ops.length by rw [mark_length]; simp [hll])
            have hIx2 := fun q => (⟨(hIx q).1, by have := (hIx q).2; omega⟩ : 0 ≤ b.ops[m].x ∧ b.ops[m].x < (b.ops.length : Int))
            have hIy2 := fun q => (⟨(hIy q).1, by have := (hIy q).2; omega⟩ : 0 ≤ b.ops[m].y ∧ b.ops[m].y < (b.ops.length : Int))
            clear hIx hIy
            have hIx := hIx2
            have hIy := hIy2
            clear hIx2 hIy2
            go_upto_if 70 with fail
            go_cut [9] (fun s9 wx => Ext w wx ∧ w7.heap.size ≤ wx.heap.size ∧ Bx wx (w.heap.size) [.int .i64 b.pc, .int .i64 b.len, (.slice (some ⟨bb, off, none⟩) b.ops.length cb1), .int .i64 b.fin, .int .i64 b.x, .int .i64 b.y, .int .i64 b.k] ∧ (∀ oo, wx.frozen? ⟨w.heap.size, oo, none⟩ = false) ∧ Bx wx (w5.heap.size) [.int .i64 (b.ops[m].kind), .int .i64 (b.ops[m].x), .int .i64 (b.ops[m].y), .int .i64 (b.ops[m].k), .int .i64 (b.ops[m].at_)] ∧ (∀ oo, wx.frozen? ⟨w5.heap.size, oo, none⟩ = false) ∧ FRow wx (w.heap.size + 1) 0 (mark (l.set m true) (hasX b.ops[m].kind) (b.ops[m].x)))
            case first =>
              cases hp : hasX b.ops[m].kind
              · go_wp2_with fail
                have e : mark (l.set m true) (hasX b.ops[m].kind) (b.ops[m].x) = l.set m true := by unfold mark; rw [hp]; rfl
                go_meet
                exact ⟨(Ext.hold he7), (by first | omega | (simp; done) | (simp; omega)), (Bx.hold hBb_7), (fz_hold hFb_7), (Bx.hold hBo_7), (fz_hold hFo_7), (by rw [e]; exact hRg_7)⟩
              · have hi := hIx hp
                have hi0 := hi.1
                have hi1 := hi.2
                have hin : (b.ops[m].x).toNat < (l.set m true).length := by rw [HLx.out]; omega
                have yo : w5.heap.size < w7.heap.size := by omega
                have xo0 := hBo_7 0 _ rfl
                have xo1 := hBo_7 1 _ rfl
                have xo2 := hBo_7 2 _ rfl
                have xo3 := hBo_7 3 _ rfl
                have xo4 := hBo_7 4 _ rfl
                have gc := hRg_7.bool0 (i := (b.ops[m].x).toNat) (hin)
                have zgc := hRg_7.fz
                have ygc : w.heap.size + 1 < w7.heap.size := hRg_7.lt
                go_wp2_with fail
                have e : mark (l.set m true) (hasX b.ops[m].kind) (b.ops[m].x) = (l.set m true).set (b.ops[m].x).toNat true := by unfold mark; rw [hp]; rfl
                go_meet
                exact ⟨(Ext.hold he7), (by first | omega | (simp; done) | (simp; omega)), (Bx.hold hBb_7), (fz_hold hFb_7), (Bx.hold hBo_7), (fz_hold hFo_7), (by rw [e]; exact hRg_7.setBool0 hin true)⟩
            case rest =>
              obtain ⟨he8, hs8, hBb_8, hFb_8, hBo_8, hFo_8, hRg_8⟩ := hcut
              obtain ⟨w8, hwc⟩ : ∃ w8 : World, w8 = wc := ⟨_, rfl⟩
              subst hwc
              clear hBb_7 hFb_7 hBo_7 hFo_7 hRg_7
              cases hp : hasY b.ops[m].kind
              · go_wp2_with fail
                have e : mark (mark (l.set m true) (hasX b.ops[m].kind) (b.ops[m].x)) (hasY b.ops[m].kind) (b.ops[m].y) = mark (l.set m true) (hasX b.ops[m].kind) (b.ops[m].x) := by unfold mark; rw [hp]; rfl
                go_roundw
                case rel => exact ⟨m, mark (mark (l.set m true) (hasX b.ops[m].kind) (b.ops[m].x)) (hasY b.ops[m].kind) (b.ops[m].y), by omega, by go_num, by rw [mark_length, mark_length]; simp [hll], by have h1 := HGS.out; rw [usedStep_yes HV.out] at h1; exact h1, (Ext.hold he8), (by first | omega | (simp; omega)), (Bx.hold hBb_8), (fz_hold hFb_8), (by rw [e]; exact hRg_8)⟩
                case measure => (simp [intOf]; try omega)
              · have hi := hIy hp
                have hi0 := hi.1
                have hi1 := hi.2
                have hin : (b.ops[m].y).toNat < (mark (l.set m true) (hasX b.ops[m].kind) (b.ops[m].x)).length := by rw [HLy.out]; omega
                have yo : w5.heap.size < w8.heap.size := by omega
                have xo0 := hBo_8 0 _ rfl
                have xo1 := hBo_8 1 _ rfl
                have xo2 := hBo_8 2 _ rfl
                have xo3 := hBo_8 3 _ rfl
                have xo4 := hBo_8 4 _ rfl
                have gc := hRg_8.bool0 (i := (b.ops[m].y).toNat) (hin)
                have zgc := hRg_8.fz
                have ygc : w.heap.size + 1 < w8.heap.size := hRg_8.lt
                go_wp2_with fail
                have e : mark (mark (l.set m true) (hasX b.ops[m].kind) (b.ops[m].x)) (hasY b.ops[m].kind) (b.ops[m].y) = (mark (l.set m true) (hasX b.ops[m].kind) (b.ops[m].x)).set (b.ops[m].y).toNat true := by unfold mark; rw [hp]; rfl
                go_roundw
                case rel => exact ⟨m, mark (mark (l.set m true) (hasX b.ops[m].kind) (b.ops[m].x)) (hasY b.ops[m].kind) (b.ops[m].y), by omega, by go_num, by rw [mark_length, mark_length]; simp [hll], by have h1 := HGS.out; rw [usedStep_yes HV.out] at h1; exact h1, (Ext.hold he8), (by first | omega | (simp; omega)), (Bx.hold hBb_8), (fz_hold hFb_8), (by rw [e]; exact hRg_8.setBool0 hin true)⟩
                case measure => (simp [intOf]; try omega)

end Go.Proofs.Ytjemadbhpbbhlaa
