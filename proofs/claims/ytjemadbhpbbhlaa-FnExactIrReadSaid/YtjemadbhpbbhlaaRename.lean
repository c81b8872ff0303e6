/-
  The program renames the indices of a block.
-/
import Derived.Test.YtjemadbhpbbhlaaEndHas
import Derived.Test.YtjemadbhpbbhlaaRowLib
import Derived.Test.YtjemadbhpbbhlaaRegLib
import Derived.Test.YtjemadbhpbbhlaaClone
import Derived.Deep.DeepCutAuto
namespace Go.Proofs.Ytjemadbhpbbhlaa
open Go.RowKit

set_option linter.unusedVariables false
set_option linter.unusedSimpArgs false
set_option maxRecDepth 100000

theorem FRow.op {w : World} {b off : Nat} {l : List IrOp} (h : FRow w b off l) {i : Nat} {a : IrOp} (ha : l[i]? = some a) :
    a.Ok ∧ w.cell? ⟨b, off + i * 5, none⟩ = some (.int .i64 a.kind) ∧ w.cell? ⟨b, off + i * 5 + 1, none⟩ = some (.int .i64 a.x) ∧ w.cell? ⟨b, off + i * 5 + 2, none⟩ = some (.int .i64 a.y) ∧ w.cell? ⟨b, off + i * 5 + 3, none⟩ = some (.int .i64 a.k) ∧ w.cell? ⟨b, off + i * 5 + 4, none⟩ = some (.int .i64 a.at_) := by
  obtain ⟨vs, ⟨rfl, hk⟩, h2⟩ := h.els i a ha
  exact ⟨hk, h2 0 _ rfl, h2 1 _ rfl, h2 2 _ rfl, h2 3 _ rfl, h2 4 _ rfl⟩
theorem FRow.opcells {w : World} {b off : Nat} {l : List IrOp} (h : FRow w b off l) {i : Nat} {a : IrOp} (ha : l[i]? = some a) :
    ∀ k x, ([.int .i64 a.kind, .int .i64 a.x, .int .i64 a.y, .int .i64 a.k, .int .i64 a.at_] : List Value)[k]? = some x → w.cell? ⟨b, off + (i * Rep.sz IrOp + k), none⟩ = some x := by
  obtain ⟨vs, ⟨rfl, hk⟩, h2⟩ := h.els i a ha
  exact h2
theorem FRow.setX {w : World} {b off : Nat} {l : List IrOp} (h : FRow w b off l) {i : Nat} {a : IrOp} (ha : l[i]? = some a) (n : Int) (hf : Fits n) : FRow (w.setCell ⟨b, off + i * 5 + 1, none⟩ (.int .i64 n)) b off (l.set i { a with x := n }) :=
  h.put (j := 1) (S := fun _ => False) (List.getElem?_eq_some_iff.1 ha).1 { a with x := n } _ _ (h.opcells ha) rfl (by decide) rfl ⟨rfl, by have := (h.op ha).1; exact ⟨this.1, hf, this.2.2.1, this.2.2.2.1, this.2.2.2.2⟩⟩ (by simp [Rep.sz]; omega)
theorem FRow.setY {w : World} {b off : Nat} {l : List IrOp} (h : FRow w b off l) {i : Nat} {a : IrOp} (ha : l[i]? = some a) (n : Int) (hf : Fits n) : FRow (w.setCell ⟨b, off + i * 5 + 2, none⟩ (.int .i64 n)) b off (l.set i { a with y := n }) :=
  h.put (j := 2) (S := fun _ => False) (List.getElem?_eq_some_iff.1 ha).1 { a with y := n } _ _ (h.opcells ha) rfl (by decide) rfl ⟨rfl, by have := (h.op ha).1; exact ⟨this.1, this.2.1, hf, this.2.2.2.1, this.2.2.2.2⟩⟩ (by simp [Rep.sz]; omega)

set_option maxHeartbeats 16000000 in
theorem rename_any (b : IrBlock) (N : List Int) (bp bo off bn c cn : Nat) (w : World) (hBp_0 : Bx w bp [.int .i64 b.pc, .int .i64 b.len, (.slice (some ⟨bo, off, none⟩) b.ops.length c), .int .i64 b.fin, .int .i64 b.x, .int .i64 b.y, .int .i64 b.k]) (hFp_0 : ∀ oo, w.frozen? ⟨bp, oo, none⟩ = false) (hlp : bp < w.heap.size) (hRo_0 : FRow w bo off b.ops) (hRn_0 : FRow w bn 0 N) (hd1 : bp ≠ bo) (hd2 : bp ≠ bn) (hd3 : bo ≠ bn) (hc : b.ops.length ≤ c) (hm : c ≤ maxLen) (hcn : N.length ≤ cn) (hm2 : cn ≤ maxLen) (hkd : ∀ o, o ∈ b.ops → 1 ≤ o.kind ∧ o.kind ≤ 8) (hops : ∀ o, o ∈ b.ops → Below' N.length o) (hX : endX b.fin = true → 0 ≤ b.x ∧ b.x < (N.length : Int)) (hY : endY b.fin = true → 0 ≤ b.y ∧ b.y < (N.length : Int)) :
    Calls Try.prog 98 #[.pointer (some ⟨bp, 0, none⟩), .slice (some ⟨bn, 0, none⟩) N.length cn] w fun e w' => e = .returned (.tuple #[]) ∧ Chg [bp, bo] w w' ∧ Bx w' bp [.int .i64 ((renEnd N b (b.ops.map (ren N))).pc), .int .i64 ((renEnd N b (b.ops.map (ren N))).len), (.slice (some ⟨bo, off, none⟩) b.ops.length c), .int .i64 ((renEnd N b (b.ops.map (ren N))).fin), .int .i64 ((renEnd N b (b.ops.map (ren N))).x), .int .i64 ((renEnd N b (b.ops.map (ren N))).y), .int .i64 ((renEnd N b (b.ops.map (ren N))).k)] ∧ FRow w' bo off (b.ops.map (ren N)) := by
  unfold maxLen at hm hm2
  go_enter Try.func98, Try.ntmps98
  have he0 : Chg [bp, bo] w (w) := Chg.refl _ w
  have hs0 : w.heap.size ≤ w.heap.size := Nat.le_refl _
  have hq0 := hide (rfl : w.heap.size = w.heap.size)
  have hbn := hRn_0.lt
  have hbo := hRo_0.lt
  have yp : bp < w.heap.size := by omega
  have xp0 := hBp_0 0 _ rfl
  have xp1 := hBp_0 1 _ rfl
  have xp2 := hBp_0 2 _ rfl
  have xp3 := hBp_0 3 _ rfl
  have xp4 := hBp_0 4 _ rfl
  have xp5 := hBp_0 5 _ rfl
  have xp6 := hBp_0 6 _ rfl
  go_wp2_with fail
  clear xp0 xp1 xp2 xp3 xp4 xp5 xp6 yp
  go_loopw [18] (fun i w1 => ∃ (k : Nat), k ≤ b.ops.length ∧ i = .int .i64 (k : Int) ∧ Chg [bp, bo] w (w1) ∧ w.heap.size ≤ w1.heap.size ∧ Bx w1 (bp) [.int .i64 b.pc, .int .i64 b.len, (.slice (some ⟨bo, off, none⟩) b.ops.length c), .int .i64 b.fin, .int .i64 b.x, .int .i64 b.y, .int .i64 b.k] ∧ (∀ oo, w1.frozen? ⟨bp, oo, none⟩ = false) ∧ FRow w1 (bn) 0 (N) ∧ FRow w1 (bo) off (renTo b.ops N k)) (fun i _ => b.ops.length - (intOf i).toNat)
  case atStart => exact ⟨0, by omega, rfl, he0, Nat.le_refl _, hBp_0, hFp_0, hRn_0, by rw [renTo_zero]; exact hRo_0⟩
  case round =>
    obtain ⟨w1, hwr⟩ : ∃ w1 : World, w1 = wr := ⟨_, rfl⟩
    subst hwr
    obtain ⟨k, hk, rfl, he1, hs1, hBp_1, hFp_1, hRn_1, hRo_1⟩ := hrel
    by_cases hlt : k < b.ops.length
    · 
      have z0 : (0 : Int) ≤ (k : Int) := by omega
      have z1 : (k : Int) < (b.ops.length : Int) := by omega
      have HA := hide (renTo_at b.ops N k hlt)
      obtain ⟨hk0, e0, e1, e2, e3, e4⟩ := hRo_1.op HA.out
      have ybo : bo < w1.heap.size := hRo_1.lt
      have KD := hkd _ (List.getElem_mem hlt)
      have KD1 := KD.1
      have KD2 := KD.2
      have HB := hide (hops _ (List.getElem_mem hlt))
      have yp : bp < w1.heap.size := by omega
      have xp0 := hBp_1 0 _ rfl
      have xp1 := hBp_1 1 _ rfl
      have xp2 := hBp_1 2 _ rfl
      have xp3 := hBp_1 3 _ rfl
      have xp4 := hBp_1 4 _ rfl
      have xp5 := hBp_1 5 _ rfl
      have xp6 := hBp_1 6 _ rfl
      go_wp2_with fail
      clear xp0 xp1 xp2 xp3 xp4 xp5 xp6 yp
      have he2 : Chg [bp, bo] w ((w1.alloc (Obj.cells #[.int .i64 (b.ops[k].kind), .int .i64 (b.ops[k].x), .int .i64 (b.ops[k].y), .int .i64 (b.ops[k].k), .int .i64 (b.ops[k].at_)] 92))) := (by (repeat' (first | (with_reducible exact he1) | (with_reducible refine Chg.alloc ?_ _) | (with_reducible refine Chg.set2 ?_ ?_ _) | (with_reducible refine Chg.drew ?_))); all_goals (first | omega | (simp; done) | (simp; omega)))
      have hs2 : w1.heap.size + 1 ≤ ((w1.alloc (Obj.cells #[.int .i64 (b.ops[k].kind), .int .i64 (b.ops[k].x), .int .i64 (b.ops[k].y), .int .i64 (b.ops[k].k), .int .i64 (b.ops[k].at_)] 92))).heap.size := by simp
      have hq2 := hide (show ((w1.alloc (Obj.cells #[.int .i64 (b.ops[k].kind), .int .i64 (b.ops[k].x), .int .i64 (b.ops[k].y), .int .i64 (b.ops[k].k), .int .i64 (b.ops[k].at_)] 92))).heap.size = w1.heap.size + 1 by simp)
      have hltn_2 : bn < w1.heap.size := hRn_1.lt
      have hlto_2 : bo < w1.heap.size := hRo_1.lt
      have hBp_2 : Bx ((w1.alloc (Obj.cells #[.int .i64 (b.ops[k].kind), .int .i64 (b.ops[k].x), .int .i64 (b.ops[k].y), .int .i64 (b.ops[k].k), .int .i64 (b.ops[k].at_)] 92))) (bp) [.int .i64 b.pc, .int .i64 b.len, (.slice (some ⟨bo, off, none⟩) b.ops.length c), .int .i64 b.fin, .int .i64 b.x, .int .i64 b.y, .int .i64 b.k] := Bx.hold hBp_1
      have hFp_2 : ∀ oo, ((w1.alloc (Obj.cells #[.int .i64 (b.ops[k].kind), .int .i64 (b.ops[k].x), .int .i64 (b.ops[k].y), .int .i64 (b.ops[k].k), .int .i64 (b.ops[k].at_)] 92))).frozen? ⟨bp, oo, none⟩ = false := (fz_hold hFp_1)
      have hRn_2 : FRow ((w1.alloc (Obj.cells #[.int .i64 (b.ops[k].kind), .int .i64 (b.ops[k].x), .int .i64 (b.ops[k].y), .int .i64 (b.ops[k].k), .int .i64 (b.ops[k].at_)] 92))) (bn) 0 (N) := FRow.hold hRn_1
      have hRo_2 : FRow ((w1.alloc (Obj.cells #[.int .i64 (b.ops[k].kind), .int .i64 (b.ops[k].x), .int .i64 (b.ops[k].y), .int .i64 (b.ops[k].k), .int .i64 (b.ops[k].at_)] 92))) (bo) off (renTo b.ops N k) := FRow.hold hRo_1
      have hBx_2 : Bx ((w1.alloc (Obj.cells #[.int .i64 (b.ops[k].kind), .int .i64 (b.ops[k].x), .int .i64 (b.ops[k].y), .int .i64 (b.ops[k].k), .int .i64 (b.ops[k].at_)] 92))) (w1.heap.size) [.int .i64 (b.ops[k].kind), .int .i64 (b.ops[k].x), .int .i64 (b.ops[k].y), .int .i64 (b.ops[k].k), .int .i64 (b.ops[k].at_)] := (by have := Bx.new w1 #[.int .i64 (b.ops[k].kind), .int .i64 (b.ops[k].x), .int .i64 (b.ops[k].y), .int .i64 (b.ops[k].k), .int .i64 (b.ops[k].at_)] 92; simpa using this)
      have hFx_2 : ∀ oo, ((w1.alloc (Obj.cells #[.int .i64 (b.ops[k].kind), .int .i64 (b.ops[k].x), .int .i64 (b.ops[k].y), .int .i64 (b.ops[k].k), .int .i64 (b.ops[k].at_)] 92))).frozen? ⟨w1.heap.size, oo, none⟩ = false := by first | (exact fz_new _ _ _ (by first | rfl | simp)) | (intro oo; simp)
      generalize (w1.alloc (Obj.cells #[.int .i64 (b.ops[k].kind), .int .i64 (b.ops[k].x), .int .i64 (b.ops[k].y), .int .i64 (b.ops[k].k), .int .i64 (b.ops[k].at_)] 92)) = w2 at *
      clear hBp_1 hFp_1 hRn_1 hRo_1
      clear e0 e1 e2 e3 e4 ybo
      refine (has_any _ _ _ _ _ _ KD1 KD2).mono ?_
      rintro e w3 ⟨rfl, hy⟩
      have hx3 : Ext w2 w3 := Ext.trans (Ext.auto) hy
      have hs3 := hx3.size
      have he3 : Chg [bp, bo] w (w3) := he2.call hx3
      have hBp_3 : Bx w3 (bp) [.int .i64 b.pc, .int .i64 b.len, (.slice (some ⟨bo, off, none⟩) b.ops.length c), .int .i64 b.fin, .int .i64 b.x, .int .i64 b.y, .int .i64 b.k] := hx3.bx hBp_2 (by omega)
      have hFp_3 : ∀ oo, w3.frozen? ⟨bp, oo, none⟩ = false := fun oo => (hx3.frozen (by omega)).trans (hFp_2 oo)
      have hBx_3 : Bx w3 (w1.heap.size) [.int .i64 (b.ops[k].kind), .int .i64 (b.ops[k].x), .int .i64 (b.ops[k].y), .int .i64 (b.ops[k].k), .int .i64 (b.ops[k].at_)] := hx3.bx hBx_2 (by omega)
      have hFx_3 : ∀ oo, w3.frozen? ⟨w1.heap.size, oo, none⟩ = false := fun oo => (hx3.frozen (by omega)).trans (hFx_2 oo)
      clear hBp_2 hFp_2 hBx_2 hFx_2
      have hRn_3 : FRow w3 (bn) 0 (N) := hRn_2.ext hx3
      have hRo_3 : FRow w3 (bo) off (renTo b.ops N k) := hRo_2.ext hx3
      clear hRn_2 hRo_2
      clear hy
      go_upto_if 30 with fail
      go_cut [6] (fun s6 wx => Chg [bp, bo] w (wx) ∧ w3.heap.size ≤ wx.heap.size ∧ Bx wx (bp) [.int .i64 b.pc, .int .i64 b.len, (.slice (some ⟨bo, off, none⟩) b.ops.length c), .int .i64 b.fin, .int .i64 b.x, .int .i64 b.y, .int .i64 b.k] ∧ (∀ oo, wx.frozen? ⟨bp, oo, none⟩ = false) ∧ Bx wx (w1.heap.size) [.int .i64 (b.ops[k].kind), .int .i64 (b.ops[k].x), .int .i64 (b.ops[k].y), .int .i64 (b.ops[k].k), .int .i64 (b.ops[k].at_)] ∧ (∀ oo, wx.frozen? ⟨w1.heap.size, oo, none⟩ = false) ∧ FRow wx (bn) 0 (N) ∧ FRow wx (bo) off ((renTo b.ops N k).set k (renX N b.ops[k])))
      case first =>
        cases hp : hasX b.ops[k].kind
        · go_wp2_with fail
          have e : (renTo b.ops N k).set k (renX N b.ops[k]) = renTo b.ops N k := set_self _ _ _ (by rw [HA.out]; unfold renX; rw [hp]; rfl)
          go_meet
          exact ⟨(by (repeat' (first | (with_reducible exact he3) | (with_reducible refine Chg.alloc ?_ _) | (with_reducible refine Chg.set2 ?_ ?_ _) | (with_reducible refine Chg.drew ?_))); all_goals (first | omega | (simp; done) | (simp; omega))), (by first | omega | (simp; done) | (simp; omega)), (Bx.hold hBp_3), (fz_hold hFp_3), (Bx.hold hBx_3), (fz_hold hFx_3), (FRow.hold hRn_3), (by rw [e]; exact hRo_3)⟩
        · 
          have hi := HB.out.1 hp
          have hi0 := hi.1
          have hi1 := hi.2
          have hin : (b.ops[k].x).toNat < N.length := by omega
          have yx : w1.heap.size < w3.heap.size := by omega
          have xx0 := hBx_3 0 _ rfl
          have xx1 := hBx_3 1 _ rfl
          have xx2 := hBx_3 2 _ rfl
          have xx3 := hBx_3 3 _ rfl
          have xx4 := hBx_3 4 _ rfl
          have yp : bp < w3.heap.size := by omega
          have xp0 := hBp_3 0 _ rfl
          have xp1 := hBp_3 1 _ rfl
          have xp2 := hBp_3 2 _ rfl
          have xp3 := hBp_3 3 _ rfl
          have xp4 := hBp_3 4 _ rfl
          have xp5 := hBp_3 5 _ rfl
          have xp6 := hBp_3 6 _ rfl
          have gc := hRn_3.int0 (i := (b.ops[k].x).toNat) (hin)
          have zgc := hRn_3.fz
          have ygc : bn < w3.heap.size := hRn_3.lt
          have zo := hRo_3.fz
          have ybo : bo < w3.heap.size := hRo_3.lt
          obtain ⟨hk9, e0, e1, e2, e3, e4⟩ := hRo_3.op HA.out
          go_upto_region 5 with fail
          have hS : ∀ w', Ext w3 w' → ∀ bb oo, bb < w3.heap.size → w'.cell? ⟨bb, oo, none⟩ = w3.cell? ⟨bb, oo, none⟩ := fun w' hx bb oo hb => hx.cell hb
          refine wp_region_plan (fun w' => Ext w3 w') 10 (.float 0 (.float 1 (.float 2 (.float 3 (.float 4 (.float 5 (.float 6 (.float 7 (.float 8 (.float 9 (.tail 10))))))))))) (by kernel_rfl) (by kernel_rfl) (Ext.refl _).drew ?_
          iterate 10 ((refine Plan.float_step (v := ?_) rfl (by rfl) (fun _ _ _ h => h) (fun w' hSw => ?_) ?_; rotate_left; · (go_simp; try with_reducible rfl)); (try simp only [Act.put, List.setIfInBounds_toArray, List.set_cons_zero, List.set_cons_succ]))
          refine Plan.tail_step ?_
          simp only [List.drop_succ_cons, List.drop_zero]
          clear hS
          go_wp2_with fail
          have e : (renTo b.ops N k).set k (renX N b.ops[k]) = (renTo b.ops N k).set k { b.ops[k] with x := N[(b.ops[k].x).toNat] } := by unfold renX; rw [hp]; simp [gI, List.getElem?_eq_getElem hin]
          go_meet
          exact ⟨(by (repeat' (first | (with_reducible exact he3) | (with_reducible refine Chg.alloc ?_ _) | (with_reducible refine Chg.set2 ?_ ?_ _) | (with_reducible refine Chg.drew ?_))); all_goals (first | omega | (simp; done) | (simp; omega))), (by first | omega | (simp; done) | (simp; omega)), (Bx.hold hBp_3), (fz_hold hFp_3), (Bx.hold hBx_3), (fz_hold hFx_3), (FRow.hold hRn_3), (by rw [e]; exact hRo_3.drew.setX HA.out _ (hRn_3.intfit hin))⟩
      case rest =>
        obtain ⟨he4, hs4, hBp_4, hFp_4, hBx_4, hFx_4, hRn_4, hRo_4⟩ := hcut
        obtain ⟨w4, hwc⟩ : ∃ w4 : World, w4 = wc := ⟨_, rfl⟩
        subst hwc
        clear hBp_3 hFp_3 hBx_3 hFx_3 hRn_3 hRo_3
        have HA2 := hide (show ((renTo b.ops N k).set k (renX N b.ops[k]))[k]? = some (renX N b.ops[k]) by rw [List.getElem?_set_self]; rw [renTo_length _ _ _ hk]; exact hlt)
        have HN := hide (show ((renTo b.ops N k).set k (renX N b.ops[k])).set k (ren N b.ops[k]) = renTo b.ops N (k + 1) by rw [List.set_set, renTo_succ _ _ _ hlt])
        cases hp : hasY b.ops[k].kind
        · go_wp2_with fail
          have e : renTo b.ops N (k + 1) = (renTo b.ops N k).set k (renX N b.ops[k]) := by rw [← HN.out]; exact set_self _ _ _ (by rw [HA2.out, ren_renX, hp]; rfl)
          go_roundw
          case rel => exact ⟨k + 1, by omega, by go_num, (by (repeat' (first | (with_reducible exact he4) | (with_reducible refine Chg.alloc ?_ _) | (with_reducible refine Chg.set2 ?_ ?_ _) | (with_reducible refine Chg.drew ?_))); all_goals (first | omega | (simp; done) | (simp; omega))), (by first | omega | (simp; omega)), (Bx.hold hBp_4), (fz_hold hFp_4), (FRow.hold hRn_4), (by rw [e]; exact hRo_4)⟩
          case measure => (simp [intOf]; try omega)
        · 
          have hi := HB.out.2 hp
          have hi0 := hi.1
          have hi1 := hi.2
          have hin : (b.ops[k].y).toNat < N.length := by omega
          have yx : w1.heap.size < w4.heap.size := by omega
          have xx0 := hBx_4 0 _ rfl
          have xx1 := hBx_4 1 _ rfl
          have xx2 := hBx_4 2 _ rfl
          have xx3 := hBx_4 3 _ rfl
          have xx4 := hBx_4 4 _ rfl
          have yp : bp < w4.heap.size := by omega
          have xp0 := hBp_4 0 _ rfl
          have xp1 := hBp_4 1 _ rfl
          have xp2 := hBp_4 2 _ rfl
          have xp3 := hBp_4 3 _ rfl
          have xp4 := hBp_4 4 _ rfl
          have xp5 := hBp_4 5 _ rfl
          have xp6 := hBp_4 6 _ rfl
          have gc := hRn_4.int0 (i := (b.ops[k].y).toNat) (hin)
          have zgc := hRn_4.fz
          have ygc : bn < w4.heap.size := hRn_4.lt
          have zo := hRo_4.fz
          have ybo : bo < w4.heap.size := hRo_4.lt
          obtain ⟨hk9, e0, e1, e2, e3, e4⟩ := hRo_4.op HA2.out
          go_upto_region 7 with fail
          have hS : ∀ w', Ext w4 w' → ∀ bb oo, bb < w4.heap.size → w'.cell? ⟨bb, oo, none⟩ = w4.cell? ⟨bb, oo, none⟩ := fun w' hx bb oo hb => hx.cell hb
          refine wp_region_plan (fun w' => Ext w4 w') 10 (.float 0 (.float 1 (.float 2 (.float 3 (.float 4 (.float 5 (.float 6 (.float 7 (.float 8 (.float 9 (.tail 10))))))))))) (by kernel_rfl) (by kernel_rfl) (Ext.refl _).drew ?_
          iterate 10 ((refine Plan.float_step (v := ?_) rfl (by rfl) (fun _ _ _ h => h) (fun w' hSw => ?_) ?_; rotate_left; · (go_simp; try with_reducible rfl)); (try simp only [Act.put, List.setIfInBounds_toArray, List.set_cons_zero, List.set_cons_succ]))
          refine Plan.tail_step ?_
          simp only [List.drop_succ_cons, List.drop_zero]
          clear hS
          go_wp2_with fail
          have e : renTo b.ops N (k + 1) = ((renTo b.ops N k).set k (renX N b.ops[k])).set k { renX N b.ops[k] with y := N[(b.ops[k].y).toNat] } := by rw [← HN.out, ren_renX, hp]; simp [gI, List.getElem?_eq_getElem hin]
          go_roundw
          case rel => exact ⟨k + 1, by omega, by go_num, (by (repeat' (first | (with_reducible exact he4) | (with_reducible refine Chg.alloc ?_ _) | (with_reducible refine Chg.set2 ?_ ?_ _) | (with_reducible refine Chg.drew ?_))); all_goals (first | omega | (simp; done) | (simp; omega))), (by first | omega | (simp; omega)), (Bx.hold hBp_4), (fz_hold hFp_4), (FRow.hold hRn_4), (by rw [e]; exact hRo_4.drew.setY HA2.out _ (hRn_4.intfit hin))⟩
          case measure => (simp [intOf]; try omega)
    · 
      obtain rfl : k = b.ops.length := by omega
      rw [renTo_all] at hRo_1
      have hcall : Calls Try.prog 133 #[.agg #[.int .i64 b.pc, .int .i64 b.len, (.slice (some ⟨bo, off, none⟩) b.ops.length c), .int .i64 b.fin, .int .i64 b.x, .int .i64 b.y, .int .i64 b.k]] w1 fun e w' => e = .returned (.tuple #[.bool (endX b.fin), .bool (endY b.fin), .bool (endK b.fin)]) ∧ Ext w1 w' := endHas_any ⟨b.pc, b.len, b.ops.map (ren N), b.fin, b.x, b.y, b.k⟩ _ _ (hRo_1.sl (by simp) (by simp; omega) (by unfold maxLen; omega))
      have yp : bp < w1.heap.size := by omega
      have xp0 := hBp_1 0 _ rfl
      have xp1 := hBp_1 1 _ rfl
      have xp2 := hBp_1 2 _ rfl
      have xp3 := hBp_1 3 _ rfl
      have xp4 := hBp_1 4 _ rfl
      have xp5 := hBp_1 5 _ rfl
      have xp6 := hBp_1 6 _ rfl
      go_wp2_with fail
      clear xp0 xp1 xp2 xp3 xp4 xp5 xp6 yp
      refine hcall.mono ?_
      rintro e w2 ⟨rfl, hy⟩
      have hx2 : Ext w1 w2 := Ext.trans (Ext.auto) hy
      have hs2 := hx2.size
      have he2 : Chg [bp, bo] w (w2) := he1.call hx2
      have hBp_2 : Bx w2 (bp) [.int .i64 b.pc, .int .i64 b.len, (.slice (some ⟨bo, off, none⟩) b.ops.length c), .int .i64 b.fin, .int .i64 b.x, .int .i64 b.y, .int .i64 b.k] := hx2.bx hBp_1 (by omega)
      have hFp_2 : ∀ oo, w2.frozen? ⟨bp, oo, none⟩ = false := fun oo => (hx2.frozen (by omega)).trans (hFp_1 oo)
      clear hBp_1 hFp_1
      have hRn_2 : FRow w2 (bn) 0 (N) := hRn_1.ext hx2
      have hRo_2 : FRow w2 (bo) off (b.ops.map (ren N)) := hRo_1.ext hx2
      clear hRn_1 hRo_1
      clear hy hcall
      go_upto_if 65 with fail
      go_cut [10] (fun s10 wx => Chg [bp, bo] w (wx) ∧ w2.heap.size ≤ wx.heap.size ∧ Bx wx (bp) [.int .i64 b.pc, .int .i64 b.len, (.slice (some ⟨bo, off, none⟩) b.ops.length c), .int .i64 b.fin, .int .i64 (if endX b.fin = true then gI N b.x else b.x), .int .i64 b.y, .int .i64 b.k] ∧ (∀ oo, wx.frozen? ⟨bp, oo, none⟩ = false) ∧ FRow wx (bn) 0 (N) ∧ FRow wx (bo) off (b.ops.map (ren N)))
      case first =>
        cases hp : endX b.fin
        · 
          go_wp2_with fail
          have e : (if endX b.fin = true then gI N b.x else b.x) = b.x := by rw [hp]; rfl
          go_meet
          exact ⟨(by (repeat' (first | (with_reducible exact he2) | (with_reducible refine Chg.alloc ?_ _) | (with_reducible refine Chg.set2 ?_ ?_ _) | (with_reducible refine Chg.drew ?_))); all_goals (first | omega | (simp; done) | (simp; omega))), (by first | omega | (simp; done) | (simp; omega)), (by rw [e]; exact hBp_2), (fz_hold hFp_2), (FRow.hold hRn_2), (FRow.hold hRo_2)⟩
        · 
          have hi := hX hp
          have hi0 := hi.1
          have hi1 := hi.2
          have hin : (b.x).toNat < N.length := by omega
          have yp : bp < w2.heap.size := by omega
          have xp0 := hBp_2 0 _ rfl
          have xp1 := hBp_2 1 _ rfl
          have xp2 := hBp_2 2 _ rfl
          have xp3 := hBp_2 3 _ rfl
          have xp4 := hBp_2 4 _ rfl
          have xp5 := hBp_2 5 _ rfl
          have xp6 := hBp_2 6 _ rfl
          have fp := hFp_2
          have gc := hRn_2.int0 (i := (b.x).toNat) (hin)
          have zgc := hRn_2.fz
          have ygc : bn < w2.heap.size := hRn_2.lt
          go_wp2_with fail
          have e : (if endX b.fin = true then gI N b.x else b.x) = N[(b.x).toNat] := by rw [hp]; simp [gI, List.getElem?_eq_getElem hin]
          go_meet
          exact ⟨(by (repeat' (first | (with_reducible exact he2) | (with_reducible refine Chg.alloc ?_ _) | (with_reducible refine Chg.set2 ?_ ?_ _) | (with_reducible refine Chg.drew ?_))); all_goals (first | omega | (simp; done) | (simp; omega))), (by first | omega | (simp; done) | (simp; omega)), (by rw [e]; have := Bx.put hBp_2 (j := 4) (by simp) (.int .i64 N[(b.x).toNat]); simpa using this), (fz_hold hFp_2), (FRow.hold hRn_2), (FRow.hold hRo_2)⟩
      case rest =>
        obtain ⟨he3, hs3, hBp_3, hFp_3, hRn_3, hRo_3⟩ := hcut
        obtain ⟨w3, hwc⟩ : ∃ w3 : World, w3 = wc := ⟨_, rfl⟩
        subst hwc
        clear hBp_2 hFp_2 hRn_2 hRo_2
        cases hp : endY b.fin
        · 
          go_wp2_with fail
          have e : (if endY b.fin = true then gI N b.y else b.y) = b.y := by rw [hp]; rfl
          (try simp only [Exit.inBlock, Exit.then])
          refine bodyPost_end (results_none rfl _ _ _) rfl ?_
          exact ⟨rfl, (by (repeat' (first | (with_reducible exact he3) | (with_reducible refine Chg.alloc ?_ _) | (with_reducible refine Chg.set2 ?_ ?_ _) | (with_reducible refine Chg.drew ?_))); all_goals (first | omega | (simp; done) | (simp; omega))), (show Bx _ bp [.int .i64 b.pc, .int .i64 b.len, (.slice (some ⟨bo, off, none⟩) b.ops.length c), .int .i64 b.fin, .int .i64 (if endX b.fin = true then gI N b.x else b.x), .int .i64 (if endY b.fin = true then gI N b.y else b.y), .int .i64 b.k] from (by rw [e]; exact hBp_3)), (FRow.hold hRo_3)⟩
        · 
          have hi := hY hp
          have hi0 := hi.1
          have hi1 := hi.2
          have hin : (b.y).toNat < N.length := by omega
          have yp : bp < w3.heap.size := by omega
          have xp0 := hBp_3 0 _ rfl
          have xp1 := hBp_3 1 _ rfl
          have xp2 := hBp_3 2 _ rfl
          have xp3 := hBp_3 3 _ rfl
          have xp4 := hBp_3 4 _ rfl
          have xp5 := hBp_3 5 _ rfl
          have xp6 := hBp_3 6 _ rfl
          have fp := hFp_3
          have gc := hRn_3.int0 (i := (b.y).toNat) (hin)
          have zgc := hRn_3.fz
          have ygc : bn < w3.heap.size := hRn_3.lt
          go_wp2_with fail
          have e : (if endY b.fin = true then gI N b.y else b.y) = N[(b.y).toNat] := by rw [hp]; simp [gI, List.getElem?_eq_getElem hin]
          (try simp only [Exit.inBlock, Exit.then])
          refine bodyPost_end (results_none rfl _ _ _) rfl ?_
          exact ⟨rfl, (by (repeat' (first | (with_reducible exact he3) | (with_reducible refine Chg.alloc ?_ _) | (with_reducible refine Chg.set2 ?_ ?_ _) | (with_reducible refine Chg.drew ?_))); all_goals (first | omega | (simp; done) | (simp; omega))), (show Bx _ bp [.int .i64 b.pc, .int .i64 b.len, (.slice (some ⟨bo, off, none⟩) b.ops.length c), .int .i64 b.fin, .int .i64 (if endX b.fin = true then gI N b.x else b.x), .int .i64 (if endY b.fin = true then gI N b.y else b.y), .int .i64 b.k] from (by rw [e]; have := Bx.put hBp_3 (j := 5) (by simp) (.int .i64 N[(b.y).toNat]); simpa using this)), (FRow.hold hRo_3)⟩

set_option maxHeartbeats 16000000 in
theorem rename0_any (b : IrBlock) (N : List Int) (bp bn : Nat) (A : Option Addr) (c cn : Nat) (w : World) (hn0 : b.ops = []) (hBp_0 : Bx w bp [.int .i64 b.pc, .int .i64 b.len, (.slice A 0 c), .int .i64 b.fin, .int .i64 b.x, .int .i64 b.y, .int .i64 b.k]) (hFp_0 : ∀ oo, w.frozen? ⟨bp, oo, none⟩ = false) (hlp : bp < w.heap.size) (hRn_0 : FRow w bn 0 N) (hd2 : bp ≠ bn) (hcn : N.length ≤ cn) (hm2 : cn ≤ maxLen) (hc0 : A = none → c = 0) (hm : c ≤ maxLen) (hX : endX b.fin = true → 0 ≤ b.x ∧ b.x < (N.length : Int)) (hY : endY b.fin = true → 0 ≤ b.y ∧ b.y < (N.length : Int)) :
    Calls Try.prog 98 #[.pointer (some ⟨bp, 0, none⟩), .slice (some ⟨bn, 0, none⟩) N.length cn] w fun e w' => e = .returned (.tuple #[]) ∧ Chg [bp] w w' ∧ Bx w' bp [.int .i64 ((renEnd N b (b.ops)).pc), .int .i64 ((renEnd N b (b.ops)).len), (.slice A 0 c), .int .i64 ((renEnd N b (b.ops)).fin), .int .i64 ((renEnd N b (b.ops)).x), .int .i64 ((renEnd N b (b.ops)).y), .int .i64 ((renEnd N b (b.ops)).k)] := by
  unfold maxLen at hm hm2
  go_enter Try.func98, Try.ntmps98
  have he0 : Chg [bp] w (w) := Chg.refl _ w
  have hs0 : w.heap.size ≤ w.heap.size := Nat.le_refl _
  have hq0 := hide (rfl : w.heap.size = w.heap.size)
  have hbn := hRn_0.lt
  have yp : bp < w.heap.size := by omega
  have xp0 := hBp_0 0 _ rfl
  have xp1 := hBp_0 1 _ rfl
  have xp2 := hBp_0 2 _ rfl
  have xp3 := hBp_0 3 _ rfl
  have xp4 := hBp_0 4 _ rfl
  have xp5 := hBp_0 5 _ rfl
  have xp6 := hBp_0 6 _ rfl
  go_wp2_with fail
  clear xp0 xp1 xp2 xp3 xp4 xp5 xp6 yp
  go_loopw [18] (fun i w1 => ∃ (k : Nat), k ≤ 0 ∧ i = .int .i64 (k : Int) ∧ Chg [bp] w (w1) ∧ w.heap.size ≤ w1.heap.size ∧ Bx w1 (bp) [.int .i64 b.pc, .int .i64 b.len, (.slice A 0 c), .int .i64 b.fin, .int .i64 b.x, .int .i64 b.y, .int .i64 b.k] ∧ (∀ oo, w1.frozen? ⟨bp, oo, none⟩ = false) ∧ FRow w1 (bn) 0 (N)) (fun i _ => 0 - (intOf i).toNat)
  case atStart => exact ⟨0, by omega, rfl, he0, Nat.le_refl _, hBp_0, hFp_0, hRn_0⟩
  case round =>
    obtain ⟨w1, hwr⟩ : ∃ w1 : World, w1 = wr := ⟨_, rfl⟩
    subst hwr
    obtain ⟨k, hk, rfl, he1, hs1, hBp_1, hFp_1, hRn_1⟩ := hrel
    obtain rfl : k = 0 := by omega
    have hcall : Calls Try.prog 133 #[.agg #[.int .i64 b.pc, .int .i64 b.len, (.slice A 0 c), .int .i64 b.fin, .int .i64 b.x, .int .i64 b.y, .int .i64 b.k]] w1 fun e w' => e = .returned (.tuple #[.bool (endX b.fin), .bool (endY b.fin), .bool (endK b.fin)]) ∧ Ext w1 w' := endHas_any ⟨b.pc, b.len, [], b.fin, b.x, b.y, b.k⟩ _ _ (⟨A, c, rfl, Nat.zero_le _, by unfold maxLen; omega, hc0, fun h => absurd rfl h⟩)
    have yp : bp < w1.heap.size := by omega
    have xp0 := hBp_1 0 _ rfl
    have xp1 := hBp_1 1 _ rfl
    have xp2 := hBp_1 2 _ rfl
    have xp3 := hBp_1 3 _ rfl
    have xp4 := hBp_1 4 _ rfl
    have xp5 := hBp_1 5 _ rfl
    have xp6 := hBp_1 6 _ rfl
    go_wp2_with fail
    clear xp0 xp1 xp2 xp3 xp4 xp5 xp6 yp
    refine hcall.mono ?_
    rintro e w2 ⟨rfl, hy⟩
    have hx2 : Ext w1 w2 := Ext.trans (Ext.auto) hy
    have hs2 := hx2.size
    have he2 : Chg [bp] w (w2) := he1.call hx2
    have hBp_2 : Bx w2 (bp) [.int .i64 b.pc, .int .i64 b.len, (.slice A 0 c), .int .i64 b.fin, .int .i64 b.x, .int .i64 b.y, .int .i64 b.k] := hx2.bx hBp_1 (by omega)
    have hFp_2 : ∀ oo, w2.frozen? ⟨bp, oo, none⟩ = false := fun oo => (hx2.frozen (by omega)).trans (hFp_1 oo)
    clear hBp_1 hFp_1
    have hRn_2 : FRow w2 (bn) 0 (N) := hRn_1.ext hx2
    clear hRn_1
    clear hy hcall
    go_upto_if 65 with fail
    go_cut [10] (fun s10 wx => Chg [bp] w (wx) ∧ w2.heap.size ≤ wx.heap.size ∧ Bx wx (bp) [.int .i64 b.pc, .int .i64 b.len, (.slice A 0 c), .int .i64 b.fin, .int .i64 (if endX b.fin = true then gI N b.x else b.x), .int .i64 b.y, .int .i64 b.k] ∧ (∀ oo, wx.frozen? ⟨bp, oo, none⟩ = false) ∧ FRow wx (bn) 0 (N))
    case first =>
      cases hp : endX b.fin
      · 
        go_wp2_with fail
        have e : (if endX b.fin = true then gI N b.x else b.x) = b.x := by rw [hp]; rfl
        go_meet
        exact ⟨(by (repeat' (first | (with_reducible exact he2) | (with_reducible refine Chg.alloc ?_ _) | (with_reducible refine Chg.set2 ?_ ?_ _) | (with_reducible refine Chg.drew ?_))); all_goals (first | omega | (simp; done) | (simp; omega))), (by first | omega | (simp; done) | (simp; omega)), (by rw [e]; exact hBp_2), (fz_hold hFp_2), (FRow.hold hRn_2)⟩
      · 
        have hi := hX hp
        have hi0 := hi.1
        have hi1 := hi.2
        have hin : (b.x).toNat < N.length := by omega
        have yp : bp < w2.heap.size := by omega
        have xp0 := hBp_2 0 _ rfl
        have xp1 := hBp_2 1 _ rfl
        have xp2 := hBp_2 2 _ rfl
        have xp3 := hBp_2 3 _ rfl
        have xp4 := hBp_2 4 _ rfl
        have xp5 := hBp_2 5 _ rfl
        have xp6 := hBp_2 6 _ rfl
        have fp := hFp_2
        have gc := hRn_2.int0 (i := (b.x).toNat) (hin)
        have zgc := hRn_2.fz
        have ygc : bn < w2.heap.size := hRn_2.lt
        go_wp2_with fail
        have e : (if endX b.fin = true then gI N b.x else b.x) = N[(b.x).toNat] := by rw [hp]; simp [gI, List.getElem?_eq_getElem hin]
        go_meet
        exact ⟨(by (repeat' (first | (with_reducible exact he2) | (with_reducible refine Chg.alloc ?_ _) | (with_reducible refine Chg.set2 ?_ ?_ _) | (with_reducible refine Chg.drew ?_))); all_goals (first | omega | (simp; done) | (simp; omega))), (by first | omega | (simp; done) | (simp; omega)), (by rw [e]; have := Bx.put hBp_2 (j := 4) (by simp) (.int .i64 N[(b.x).toNat]); simpa using this), (fz_hold hFp_2), (FRow.hold hRn_2)⟩
    case rest =>
      obtain ⟨he3, hs3, hBp_3, hFp_3, hRn_3⟩ := hcut
      obtain ⟨w3, hwc⟩ : ∃ w3 : World, w3 = wc := ⟨_, rfl⟩
      subst hwc
      clear hBp_2 hFp_2 hRn_2
      cases hp : endY b.fin
      · 
        go_wp2_with fail
        have e : (if endY b.fin = true then gI N b.y else b.y) = b.y := by rw [hp]; rfl
        (try simp only [Exit.inBlock, Exit.then])
        refine bodyPost_end (results_none rfl _ _ _) rfl ?_
        exact ⟨rfl, (by (repeat' (first | (with_reducible exact he3) | (with_reducible refine Chg.alloc ?_ _) | (with_reducible refine Chg.set2 ?_ ?_ _) | (with_reducible refine Chg.drew ?_))); all_goals (first | omega | (simp; done) | (simp; omega))), (show Bx _ bp [.int .i64 b.pc, .int .i64 b.len, (.slice A 0 c), .int .i64 b.fin, .int .i64 (if endX b.fin = true then gI N b.x else b.x), .int .i64 (if endY b.fin = true then gI N b.y else b.y), .int .i64 b.k] from (by rw [e]; exact hBp_3))⟩
      · 
        have hi := hY hp
        have hi0 := hi.1
        have hi1 := hi.2
        have hin : (b.y).toNat < N.length := by omega
        have yp : bp < w3.heap.size := by omega
        have xp0 := hBp_3 0 _ rfl
        have xp1 := hBp_3 1 _ rfl
        have xp2 := hBp_3 2 _ rfl
        have xp3 := hBp_3 3 _ rfl
        have xp4 := hBp_3 4 _ rfl
        have xp5 := hBp_3 5 _ rfl
        have xp6 := hBp_3 6 _ rfl
        have fp := hFp_3
        have gc := hRn_3.int0 (i := (b.y).toNat) (hin)
        have zgc := hRn_3.fz
        have ygc : bn < w3.heap.size := hRn_3.lt
        go_wp2_with fail
        have e : (if endY b.fin = true then gI N b.y else b.y) = N[(b.y).toNat] := by rw [hp]; simp [gI, List.getElem?_eq_getElem hin]
        (try simp only [Exit.inBlock, Exit.then])
        refine bodyPost_end (results_none rfl _ _ _) rfl ?_
        exact ⟨rfl, (by (repeat' (first | (with_reducible exact he3) | (with_reducible refine Chg.alloc ?_ _) | (with_reducible refine Chg.set2 ?_ ?_ _) | (with_reducible refine Chg.drew ?_))); all_goals (first | omega | (simp; done) | (simp; omega))), (show Bx _ bp [.int .i64 b.pc, .int .i64 b.len, (.slice A 0 c), .int .i64 b.fin, .int .i64 (if endX b.fin = true then gI N b.x else b.x), .int .i64 (if endY b.fin = true then gI N b.y else b.y), .int .i64 b.k] from (by rw [e]; have := Bx.put hBp_3 (j := 5) (by simp) (.int .i64 N[(b.y).toNat]); simpa using this))⟩

end Go.Proofs.Ytjemadbhpbbhlaa
