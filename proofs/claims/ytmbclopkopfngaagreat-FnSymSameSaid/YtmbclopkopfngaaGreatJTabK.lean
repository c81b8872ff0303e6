/-
 TabK, DrawF, Read, DrawS, Rd, DrawO, EndPure, DrawL
-/
import Derived.Test.YtmbclopkopfngaaGreatJTabS
import Derived.Test.YtmbclopkopfngaaGreatJDrawI
import Derived.Lib.SmallJoins
set_option maxHeartbeats 64000000
namespace Go.Proofs.YtmbclopkopfngaaGreat
open Go.RowKit
set_option linter.unusedVariables false
set_option linter.unusedSimpArgs false
set_option maxRecDepth 100000
theorem an0 (t : p4) (vt1 : Value) (w : World) (ht1 : Sl w (Old w) vt1 t.atoms)  :
  Calls Tryz.prog 31 #[.agg #[vt1]] w fun e w' => e = .returned (.bool (x8 t)) ∧ Ext w w' := by
 obtain ⟨At1, ct1, rfl, hlt1, bv4⟩ := ht1.form;unfold maxLen at bv4;by_cases h4 : t.atoms.length ≤ 200;rotate_left
 ·have HV := hide (show x8 t = false by unfold x8; rw [decide_eq_false h4]; rfl)
  have qa : decide ((200 : Int) < (t.atoms.length : Int)) = true := decide_eq_true (by omega);have qb : decide (200 < t.atoms.length) = true := decide_eq_true (by omega);go_enter Tryz.func31, Tryz.ntmps31;go_upto_region 1 with fail;obtain ⟨w0, J3, he0, hs0, hq0, ag1, ak7⟩ := new1 w [(.slice At1 t.atoms.length ct1)] 44;rw [J3];clear J3;have yt : w.heap.size < w0.heap.size := (by omega);have xt0 := ag1 0 _ rfl;go_wp2;go_ret;exact ⟨by rw [HV.out]; rfl, Ext.hold he0⟩
 have HV := hide (show x8 t = az9 t.atoms.length (ah2 t.atoms) by unfold x8; rw [decide_eq_true h4]; rfl);have qa : decide ((200 : Int) < (t.atoms.length : Int)) = false := decide_eq_false (by omega);have qb : decide (200 < t.atoms.length) = false := decide_eq_false (by omega);go_enter Tryz.func31, Tryz.ntmps31;go_upto_region 1 with fail;obtain ⟨w0, J3, he0, hs0, hq0, ag1, ak7⟩ := new1 w [(.slice At1 t.atoms.length ct1)] 44;rw [J3];clear J3;have yt : w.heap.size < w0.heap.size := (by omega);have xt0 := ag1 0 _ rfl;go_wp2;clear xt0 yt;clear qa qb;go_loopw [3] (fun i wr => ∃ k : Nat, k ≤ t.atoms.length ∧ i = .int .i64 k ∧ Ext w0 wr ∧ Hid (∀ j, j < k → ah2 t.atoms j = true)) (fun i _ => t.atoms.length - (intOf i).toNat);case atStart => exact ⟨0, by omega, rfl, Ext.auto, fun j hj => absurd hj (by omega)⟩
 case round =>
  obtain ⟨k, hk, rfl, hx0, HT⟩ := hrel;obtain ⟨w1, hw1⟩ : ∃ w1 : World, w1 = wr := ⟨_, rfl⟩;subst hw1;have hz := hx0.size;have he := he0.trans hx0;have hB1 := hx0.bO ag1;have xt0 := hB1 0 _ rfl;have yt : w.heap.size < w1.heap.size := (by omega);by_cases hlt : k < t.atoms.length
  ·obtain ⟨b, off, va1, va2, rfl, hbo, hk0, bi4, bi5, e0, e1, e2, e3⟩ := az7 (ht1.ext he) hlt
   obtain ⟨dA0, dA1, rfl, -, -⟩ := bi4.form;obtain ⟨dA2, dA3, rfl, -, -⟩ := bi5.form;have aj5 : b < w1.heap.size := hbo;have z0 : (0 : Int) ≤ (k : Int) := (by omega);have z1 : (k : Int) < (t.atoms.length : Int) := (by omega);have HG := hide (bN7 t.atoms k hlt);go_wp2_with fail;refine (aA8 t.atoms[k] (k : Int) _ _ _ bi4 bi5).mono ?_;rintro e w2 ⟨rfl, hx2⟩;have hs2 := hx2.size;have he2 := he.trans hx2;cases q0 : U8 t.atoms[k] (k : Int)
   ·have HF := hide (show x8 t = false by rw [HV.out]; exact am8 hlt (by unfold ah2; rw [HG.out, q0]; rfl))
    go_wp2;go_ret;exact ⟨by rw [HF.out]; rfl, he2⟩
   have xt2 := (hx2.cell yt).trans xt0;go_wp2;go_loopw [4] (fun i wr => ∃ j : Nat, j ≤ k ∧ i = .int .i64 j ∧ Ext w2 wr ∧ Hid (∀ i, i < j → (!decide (gA t.atoms i = gA t.atoms k)) = true)) (fun i _ => k - (intOf i).toNat);case atStart => exact ⟨0, by omega, rfl, Ext.refl _, fun j hj => absurd hj (by omega)⟩
   case round =>
    obtain ⟨j, hj, rfl, hx3, HTj⟩ := hrel;obtain ⟨w3, hw3⟩ : ∃ w3 : World, w3 = wr := ⟨_, rfl⟩;subst hw3;have hs3 := hx3.size;have J1 := he2.trans hx3;have xt3 := (hx3.cell (by omega)).trans xt2;have yt3 : w.heap.size < w3.heap.size := (by omega);have aT7 : b < w3.heap.size := (by omega);by_cases hjk : j < k
    ·obtain ⟨bj, dA5, dA6, dA7, hbe, dA8, dA9, cw3, cw4, ej0, ej1, ej2, ej3⟩ := az7 (ht1.ext J1) (show j < t.atoms.length by omega)
     obtain ⟨do4, do5, rfl, -, -⟩ := cw3.form;obtain ⟨do6, do7, rfl, -, -⟩ := cw4.form;injection hbe with hbe;injection hbe with hb1 hb2;subst hb1 hb2;have y0 : (0 : Int) ≤ (j : Int) := (by omega);have y1 : (j : Int) < (t.atoms.length : Int) := (by omega);have q9 : decide (j < k) = true := decide_eq_true hjk;have HGj := hide (bN7 t.atoms j (by omega));have f0 := ((hx2.trans hx3).cell aj5).trans e0;have f1 := ((hx2.trans hx3).cell aj5).trans e1;have f2 := ((hx2.trans hx3).cell aj5).trans e2;have f3 := ((hx2.trans hx3).cell aj5).trans e3;go_upto_region 11 with fail;have hS : ∀ w', Ext w3 w' → ∀ bb oo, bb < w3.heap.size → w'.cell? ⟨bb, oo, none⟩ = w3.cell? ⟨bb, oo, none⟩ := fun w' hx bb oo hb => hx.cell hb;refine l8 (fun w' => Ext w3 w') 10 (.float 0 (.float 1 (.float 2 (.float 3 (.float 4 (.float 5 (.float 6 (.float 7 (.float 8 (.float 9 (.tail 10))))))))))) (by kernel_rfl) (by kernel_rfl) (Ext.refl _).drew ?_;iterate 10 ((refine Plan.j6 (v := ?_) rfl (by rfl) (fun _ _ _ h => h) (fun w' hSw => ?_) ?_; rotate_left; · (go_simp; try with_reducible rfl)); (try simp only [Act.put, U4]))
     refine Plan.F8 ?_;simp only [List.drop_succ_cons, List.drop_zero];clear hS;go_wp2_with fail;refine (ax9 t.atoms[j] t.atoms[k] _ _ _ _ _ (cw3.ext Ext.auto) (cw4.ext Ext.auto) ((bi4.ext (hx2.trans hx3)).ext Ext.auto) ((bi5.ext (hx2.trans hx3)).ext Ext.auto)).mono ?_;rintro e w4 ⟨rfl, hy⟩;have hx4 : Ext w3 w4 := Ext.trans Ext.auto hy;clear hy;cases qs : decide (t.atoms[j] = t.atoms[k])
     ·have HN := hide (ai8 (f := fun i => !decide (gA t.atoms i = gA t.atoms k)) HTj.out (by rw [HGj.out, HG.out, qs]; rfl))
      go_wp2_with fail;go_roundw;case rel => exact ⟨j + 1, by omega, by go_num, hx3.trans hx4, HN.out⟩
      case measure => (simp [intOf]; try omega)
     ·have HF := hide (show x8 t = false by rw [HV.out]; exact am8 hlt (by unfold ah2 bh6; rw [am8 (k := j) hjk (by rw [HGj.out, HG.out, qs]; rfl)]; simp))
      go_wp2;go_ret;exact ⟨by rw [HF.out]; rfl, J1.trans hx4⟩
    ·have q9 : decide (j < k) = false := decide_eq_false hjk
     have HJ := hide (show j = k by omega);have HN := hide (ai8 HT.out (show ah2 t.atoms k = true by unfold ah2 bh6; rw [HG.out, q0]; exact Z6 (fun i hi => by have := HTj.out i (by omega); rw [← HG.out]; exact this)));go_wp2_with fail;go_roundw;case rel => exact ⟨k + 1, by omega, by go_num, (hx0.trans hx2).trans hx3, HN.out⟩
     case measure => (simp [intOf]; try omega)
  ·obtain rfl : k = t.atoms.length := by omega
   have HF := hide (show x8 t = true by rw [HV.out]; exact Z6 HT.out);go_wp2;go_ret;exact ⟨by rw [HF.out]; rfl, he⟩
theorem bd2 (op : Int) (w : World) : Calls Tryz.prog 104 #[.int .i64 op] w fun e w' => (∃ b : Bool, e = .returned (.bool b)) ∧ w = w' := by
 cases q0 : (op == 11) <;> cases q1 : (op == 12) <;> cases q2 : (op == 13)
 all_goals
  go_enter Tryz.func104, Tryz.ntmps104;go_wp2;go_ret;exact ⟨⟨_, rfl⟩, rfl⟩
theorem bG0 (i : Q8) (w : World) : Calls Tryz.prog 102 #[.agg #[.int .i64 i.op, .int .i64 i.d, .int .i64 i.a, .int .i64 i.k]] w fun e w' => (∃ b : Bool, e = .returned (.bool b)) ∧ Ext w w' := by
 cases q0 : Q2 i
 ·go_enter Tryz.func102, Tryz.ntmps102;go_upto_region 1 with fail;obtain ⟨w0, J3, he0, hs0, hq0, d8, N4⟩ := new1 w [.int .i64 i.op, .int .i64 i.d, .int .i64 i.a, .int .i64 i.k] 119;rw [J3];clear J3;have yi : w.heap.size < w0.heap.size := (by omega);have S6 := d8 0 _ rfl;have S7 := d8 1 _ rfl;have S8 := d8 2 _ rfl;have T0 := d8 3 _ rfl;have fi := N4;go_wp2_with fail;refine (N5 i _).mono ?_;rintro e w1 ⟨rfl, hy⟩;simp only [q0];clear S6 S7 S8 T0 yi;clear fi;have hs1 := hy.size;try simp at hs1
  have he1 : Ext w w1 := Ext.trans (Ext.hold he0) hy;have R0 := hy.s9 d8;have aD3 := hy.t3 N4;try clear d8 N4
  clear hy;have yi : w.heap.size < w1.heap.size := (by omega);have S6 := R0 0 _ rfl;have S7 := R0 1 _ rfl;have S8 := R0 2 _ rfl;have T0 := R0 3 _ rfl;have fi := aD3;go_wp2;go_ret;exact ⟨⟨_, rfl⟩, Ext.hold he1⟩
 cases q1 : (i.op != 0)
 ·go_enter Tryz.func102, Tryz.ntmps102;go_upto_region 1 with fail;obtain ⟨w0, J3, he0, hs0, hq0, d8, N4⟩ := new1 w [.int .i64 i.op, .int .i64 i.d, .int .i64 i.a, .int .i64 i.k] 119;rw [J3];clear J3;have yi : w.heap.size < w0.heap.size := (by omega);have S6 := d8 0 _ rfl;have S7 := d8 1 _ rfl;have S8 := d8 2 _ rfl;have T0 := d8 3 _ rfl;have fi := N4;go_wp2_with fail;refine (N5 i _).mono ?_;rintro e w1 ⟨rfl, hy⟩;simp only [q0];clear S6 S7 S8 T0 yi;clear fi;have hs1 := hy.size;try simp at hs1
  have he1 : Ext w w1 := Ext.trans (Ext.hold he0) hy;have R0 := hy.s9 d8;have aD3 := hy.t3 N4;try clear d8 N4
  clear hy;have yi : w.heap.size < w1.heap.size := (by omega);have S6 := R0 0 _ rfl;have S7 := R0 1 _ rfl;have S8 := R0 2 _ rfl;have T0 := R0 3 _ rfl;have fi := aD3;go_wp2;go_ret;exact ⟨⟨_, rfl⟩, Ext.hold he1⟩
 ·go_enter Tryz.func102, Tryz.ntmps102;go_upto_region 1 with fail;obtain ⟨w0, J3, he0, hs0, hq0, d8, N4⟩ := new1 w [.int .i64 i.op, .int .i64 i.d, .int .i64 i.a, .int .i64 i.k] 119;rw [J3];clear J3;have yi : w.heap.size < w0.heap.size := (by omega);have S6 := d8 0 _ rfl;have S7 := d8 1 _ rfl;have S8 := d8 2 _ rfl;have T0 := d8 3 _ rfl;have fi := N4;go_wp2_with fail;refine (N5 i _).mono ?_;rintro e w1 ⟨rfl, hy⟩;simp only [q0];clear S6 S7 S8 T0 yi;clear fi;have hs1 := hy.size;try simp at hs1
  have he1 : Ext w w1 := Ext.trans (Ext.hold he0) hy;have R0 := hy.s9 d8;have aD3 := hy.t3 N4;try clear d8 N4
  clear hy;have yi : w.heap.size < w1.heap.size := (by omega);have S6 := R0 0 _ rfl;have S7 := R0 1 _ rfl;have S8 := R0 2 _ rfl;have T0 := R0 3 _ rfl;have fi := aD3;go_wp2_with fail;refine (bd2 i.op _).mono ?_;rintro e w' ⟨⟨b, rfl⟩, rfl⟩;cases b
  ·go_wp2;go_ret;exact ⟨⟨_, rfl⟩, Ext.hold he1⟩
  ·go_wp2;go_ret;exact ⟨⟨_, rfl⟩, Ext.hold he1⟩
theorem aZ4 (rb base P : Nat) (w : World) (h : U2 rb base P w) (hP : P ≤ 1099511620000)  :
  Calls Tryz.prog 92 #[.pointer (some ⟨rb, 0, none⟩)] w fun e w' => (∃ i : Q8, e = .returned (.agg #[.int .i64 i.op, .int .i64 i.d, .int .i64 i.a, .int .i64 i.k]) ∧ K0 i) ∧ U2 rb base (P + 9) w' ∧ Turn [rb] w w' := by
 have hlt := h.lt;have hlt1 := hlt.1;have hlt2 := hlt.2;clear hlt;go_enter Tryz.func92, Tryz.ntmps92;go_upto_region 1 with fail;obtain ⟨w0, J3, he0, hs0, hq0, j4, l9⟩ := new1 w [.int .i64 0, .int .i64 0, .int .i64 0, .int .i64 0] 119;rw [J3];clear J3;have hR0 : U2 rb base P w0 := h.ext he0;have hT0 : Turn [rb] w w0 := Turn.M8 he0 _;go_wp2_with fail;refine (bH9 rb base P _ (U2.hold hR0) (by omega)).mono ?_;rintro e w1 ⟨⟨i, rfl, hi⟩, hR1, hy⟩;have hs1 := hy.size;try simp at hs1
 have hT1 : Turn [rb] w w1 := (Turn.hold hT0).trans hy;have j5 := hy.s9 j4;have D6 := hy.t3 l9;clear j4 l9;go_upto_region 2 with fail;have hR2 : U2 rb base (P + 8) (w1.alloc (Obj.cells #[.int .i64 i.op, .int .i64 i.d, .int .i64 i.a, .int .i64 i.k] 119)) := U2.hold hR1;have hT2 : Turn [rb] w (w1.alloc (Obj.cells #[.int .i64 i.op, .int .i64 i.d, .int .i64 i.a, .int .i64 i.k] 119)) := Turn.hold hT1;have hs2 : w1.heap.size + 1 ≤ (w1.alloc (Obj.cells #[.int .i64 i.op, .int .i64 i.d, .int .i64 i.a, .int .i64 i.k] 119)).heap.size := (by simp);have X7 : Bx (w1.alloc (Obj.cells #[.int .i64 i.op, .int .i64 i.d, .int .i64 i.a, .int .i64 i.k] 119)) w1.heap.size [.int .i64 i.op, .int .i64 i.d, .int .i64 i.a, .int .i64 i.k] := Bx.new w1 #[.int .i64 i.op, .int .i64 i.d, .int .i64 i.a, .int .i64 i.k] 119;have aa4 : ∀ oo, (w1.alloc (Obj.cells #[.int .i64 i.op, .int .i64 i.d, .int .i64 i.a, .int .i64 i.k] 119)).frozen? ⟨w1.heap.size, oo, none⟩ = false := x7 w1 #[.int .i64 i.op, .int .i64 i.d, .int .i64 i.a, .int .i64 i.k] 119 rfl;have H6 := Bx.hold (w' := (w1.alloc (Obj.cells #[.int .i64 i.op, .int .i64 i.d, .int .i64 i.a, .int .i64 i.k] 119))) j5;have K5 := z8 (w' := (w1.alloc (Obj.cells #[.int .i64 i.op, .int .i64 i.d, .int .i64 i.a, .int .i64 i.k] 119))) D6;generalize (w1.alloc (Obj.cells #[.int .i64 i.op, .int .i64 i.d, .int .i64 i.a, .int .i64 i.k] 119)) = w2 at *;clear j5 D6;have yx : w1.heap.size < w2.heap.size := (by omega);have d4 := X7 0 _ rfl;have p5 := X7 1 _ rfl;have p6 := X7 2 _ rfl;have p7 := X7 3 _ rfl;have fx := aa4;go_wp2_with fail;refine (bG0 i _).mono ?_;rintro e w3 ⟨⟨b, rfl⟩, hy⟩;clear d4 p5 p6 p7 yx;clear fx;have hs3 := hy.size;have hR3 := hR2.ext hy;have hT3 := hT2.call hy;have o9 := hy.bO H6;have G9 := hy.uO K5;have X3 := hy.bO X7;have P4 := hy.uO aa4;clear hy;unfold K0 at hi;cases b
 ·have yx : w1.heap.size < w3.heap.size := (by omega);have d4 := X3 0 _ rfl;have p5 := X3 1 _ rfl;have p6 := X3 2 _ rfl;have p7 := X3 3 _ rfl;have fx := P4;go_upto_region 3 with fail;have hSx : ∀ w', Turn [rb] w3 w' → ∀ oo, w'.cell? ⟨w1.heap.size, oo, none⟩ = w3.cell? ⟨w1.heap.size, oo, none⟩ := fun w' hx oo => hx.cell (by omega) (by simp; omega);refine l8 (fun w' => Turn [rb] w3 w') 6 (.float 0 (.float 1 (.float 2 (.float 3 (.float 4 (.chain 5 (.tail 6))))))) (by kernel_rfl) (by kernel_rfl) (Turn.M8 (Ext.refl _).drew _) ?_;iterate 5 ((refine Plan.j6 (v := ?_) rfl (by rfl) (fun _ _ _ h => h) (fun w' hSw => ?_) ?_; rotate_left; · (go_simp; try with_reducible rfl)); (try simp only [Act.put, U4]))
  refine Plan.G7 rfl (fun K hK => ?_);go_simp
  skip
  refine (N8 rb base _ _ (U2.hold hR3) (by omega) 4 (by omega) (by omega)).mono ?_;rintro e w4 ⟨⟨k, rfl, lk, qk⟩, hR4, hy⟩;have uk : k < 4 := (by omega);clear qk;refine hK.out _ _ (Turn.pre Ext.auto hy) ?_;clear hK;(try simp only [Act.put, U4]);have hs4 := hy.size;try simp at hs4
  have hT4 : Turn [rb] w w4 := (Turn.hold hT3).trans hy;have l7 := hy.s9 o9;have D8 := hy.t3 G9;have C9 := hy.s9 X3;have T9 := hy.t3 P4;clear o9 G9 X3 P4;refine Plan.F8 ?_;simp only [List.drop_succ_cons, List.drop_zero];clear hSx;clear d4 p5 p6 p7 yx;clear fx;have hd := hi.2.1;have ha := hi.2.2.1;have I6 : w.heap.size < w4.heap.size := (by omega);have l6 := l7 0 _ rfl;have y5 := l7 1 _ rfl;have y7 := l7 2 _ rfl;have y8 := l7 3 _ rfl;have J8 := D8;go_wp2;refine bodyPost_ret (v := .agg #[.int .i64 3, .int .i64 i.d, .int .i64 i.a, .int .i64 k]) (by simp [results, Tryz.results92, go_sem, l6, y5, y7, y8]) rfl ⟨⟨⟨3, i.d, i.a, k⟩, rfl, by unfold K0; simp only []; omega⟩, (U2.hold hR4).up (by omega), Turn.hold hT4⟩
 ·have yx : w1.heap.size < w3.heap.size := (by omega);have d4 := X3 0 _ rfl;have p5 := X3 1 _ rfl;have p6 := X3 2 _ rfl;have p7 := X3 3 _ rfl;have fx := P4;have I6 : w.heap.size < w3.heap.size := (by omega);have l6 := o9 0 _ rfl;have y5 := o9 1 _ rfl;have y7 := o9 2 _ rfl;have y8 := o9 3 _ rfl;have J8 := G9;go_wp2;refine bodyPost_ret (v := .agg #[.int .i64 i.op, .int .i64 i.d, .int .i64 i.a, .int .i64 i.k]) (by simp [results, Tryz.results92, go_sem, l6, y5, y7, y8]) rfl ⟨⟨i, rfl, hi⟩, (U2.hold hR3).up (by omega), Turn.hold hT3⟩
open Go.RowKit Go.ChangeShapes Go.WideShapes
def Rd (P : Program) (t : TypeId) (α : Type) [a9 α] : Prop :=
 P.cellsOf t = a9.sz α ∧ 0 < a9.sz α ∧ ∀ {H : Type} (enc : TypeId × Value → H) (w : World) (base : Nat) (spare : Nat → Bool) (held : Bool) (fuel : Nat) (cs : List Value) (x : DataW H × List MemPlace),
  DataW.trod enc P w base spare held fuel t cs = some x → ∃ a : α, a9.rep w (Old w) cs a
theorem bK0 {n : Int} (h : (Lit.int .i64 n).wf = true) : Fits n := by
 simpa [Lit.wf, IntKind.min, IntKind.max, IntKind.signed, IntKind.bits, Fits] using h
theorem Rd.int {P : Program} {t : TypeId} (ht : P.underlying t = some (.int .i64)) (hc : P.cellsOf t = 1) : Rd P t Int := by
 refine ⟨hc, Nat.one_pos, ?_⟩;intro H enc w base spare held fuel cs x h;obtain ⟨n, rfl, _, hw⟩ := DataW.trod_int ht h;exact ⟨n, rfl, bK0 hw⟩
theorem Rd.bool {P : Program} {t : TypeId} (ht : P.underlying t = some .bool) (hc : P.cellsOf t = 1) : Rd P t Bool := by
 refine ⟨hc, Nat.one_pos, ?_⟩;intro H enc w base spare held fuel cs x h;obtain ⟨n, rfl, _⟩ := DataW.trod_bool ht h;exact ⟨n, rfl⟩
theorem Rd.byte {P : Program} {t : TypeId} (ht : P.underlying t = some (.int .u8)) (hc : P.cellsOf t = 1) : Rd P t UInt8 := by
 refine ⟨hc, Nat.one_pos, ?_⟩;intro H enc w base spare held fuel cs x h;obtain ⟨n, rfl, _, hw⟩ := DataW.trod_int ht h;have hb : 0 ≤ n ∧ n ≤ 255 := (by simpa [Lit.wf, IntKind.min, IntKind.max, IntKind.signed, IntKind.bits] using hw);refine ⟨UInt8.ofNat n.toNat, ?_⟩;show [Value.int .u8 n] = [.int .u8 ((UInt8.ofNat n.toNat).toNat : Int)]
 have : ((UInt8.ofNat n.toNat).toNat : Int) = n := by
  simp [UInt8.toNat_ofNat']; omega
 rw [this]
theorem bD2 {α : Type} (n : Nat) (Q : Nat → α → Prop) (h : ∀ i, i < n → ∃ a, Q i a) : ∃ l : List α, l.length = n ∧ ∀ i a, l[i]? = some a → Q i a := by
 induction n with
 | zero => exact ⟨[], rfl, fun i a h => by simp at h⟩
 | succ n ih =>
  obtain ⟨l, hl, hq⟩ := ih fun i hi => h i (by omega);obtain ⟨a, ha⟩ := h n (by omega);refine ⟨l ++ [a], by simp [hl], fun i b hb => ?_⟩;by_cases e : i < l.length
  ·rw [List.getElem?_append_left e] at hb; exact hq i b hb
  ·rw [List.getElem?_append_right (by omega)] at hb
   have e2 : i - l.length = 0 := by
    have := (List.getElem?_eq_some_iff.1 hb).1; simp at this; omega
   rw [e2] at hb;simp at hb;subst hb;rw [show i = n by omega]; exact ha
theorem addr_add (b off i : Nat) : (⟨b, off, none⟩ : Addr).add i = ⟨b, off + i, none⟩ := by
 unfold Addr.add;by_cases h : i = 0 <;> simp [h]
theorem Rd.slice {P : Program} {t e : TypeId} {α : Type} [a9 α] (ht : P.underlying t = some (.slice e)) (hc : P.cellsOf t = 1) (he : Rd P e α) : Rd P t (List α) := by
 refine ⟨hc, Nat.one_pos, ?_⟩;intro H enc w base spare held fuel cs x h;rcases DataW.trod_slice ht h with ⟨rfl, _⟩ | ⟨a, len, cap, elems, rest, n, _, rfl, _, hb, hl, hm, hlen, hel, _⟩
 ·exact ⟨[], _, rfl, Sl.nil _ _⟩
 ·have bp7 : ∀ i, i < len → ∃ cs' x', w.cells? base (a.add (i * P.cellsOf e)) (P.cellsOf e) = some cs' ∧ DataW.trod enc P w base spare held n e cs' = some x' := by
   intro i hi;have h1 := hel i hi;rw [List.getElem?_eq_getElem (by omega)] at h1;obtain ⟨cs', h2, h3⟩ := Option.bind_eq_some_iff.1 h1;exact ⟨cs', _, h2, h3⟩
  by_cases h0 : len = 0
  ·subst h0
   exact ⟨[], _, rfl, some a, cap, rfl, hl, hm, fun h => by simp at h, fun h => absurd rfl h⟩
  ·have hspot : a.spot = none := by
    obtain ⟨cs', x', h2, _⟩ := bp7 0 (by omega);obtain ⟨_, h4, h5⟩ := World.cells?_some h2;have h6 := h5 0 (by rw [he.1]; exact he.2.1);rw [List.getElem?_eq_getElem (by rw [h4, he.1]; exact he.2.1)] at h6;cases hs : a.spot with
    | none => rfl
    | some s =>
     exfalso
     simp [Addr.add, World.cell?, hs] at h6;split at h6 <;> simp at h6
   obtain ⟨b, off, sp⟩ := a;simp only at hspot;subst hspot
   have hblt : b < w.heap.size := by
    obtain ⟨cs', x', h2, _⟩ := bp7 0 (by omega);obtain ⟨_, h4, h5⟩ := World.cells?_some h2;have h6 := h5 0 (by rw [he.1]; exact he.2.1);rw [List.getElem?_eq_getElem (by rw [h4, he.1]; exact he.2.1), addr_add, addr_add] at h6;exact cl7 h6
   obtain ⟨l, hl1, hl2⟩ := bD2 len (fun i a => At w (Old w) b off i a) (fun i hi => by
    obtain ⟨cs', x', h2, h3⟩ := bp7 i hi;obtain ⟨_, h4, h5⟩ := World.cells?_some h2;obtain ⟨v, hv⟩ := he.2.2 enc w base spare held n cs' x' h3;refine ⟨v, cs', hv, fun j u hu => ?_⟩;have h6 := h5 j (by rw [← h4]; exact (List.getElem?_eq_some_iff.1 hu).1);rw [addr_add, addr_add, hu, he.1] at h6;rw [← Nat.add_assoc]
    exact h6)
   refine ⟨l, _, rfl, some ⟨b, off, none⟩, cap, by rw [hl1], by omega, hm, fun h => by simp at h, fun _ => ⟨b, off, rfl, hblt, hl2⟩⟩
theorem bD3 {H : Type} {enc : TypeId × Value → H} {P : Program} {f : Func} {s : ChangeSpec} {apart fresh handsOn again : Bool} {W W' : World} {args : Array Value} {v : Value} {ds gs : List (DataW H)} {before pa pv : List MemPlace}
  (hW : DataW.Whole enc P f.params.toList s.vars apart W args.toList ds gs before)
  (hres : ∀ (b : Nat) (sp : Nat → Bool) (hd : Bool), DataW.TrodAll enc P W' b sp hd f.resultTypes.toList (v.resultList f.resultTypes.size) (s.fn H (ds ++ gs)).results [])
  (hargs : ∀ sp : Nat → Bool, (∀ p ∈ before, sp p.block = true) → DataW.TrodAll enc P W' 0 sp true f.params.toList args.toList (s.fn H (ds ++ gs)).args pa)
  (hvars : ∀ sp : Nat → Bool, (∀ p ∈ before, sp p.block = true) → DataW.TrodVars enc P W' sp s.vars (s.fn H (ds ++ gs)).vars pv)
  (hps : before = pa ++ pv) (hx : Ext W W')
  (hok : ∀ (j : Nat) (t : TypeId) (r : Value), f.resultTypes[j]? = some t → (v.resultList f.resultTypes.size)[j]? = some r → Value.okWide P W' .any 0 t r) :
  s.post enc P f apart fresh handsOn again W args v W' := by
 have hlt := fun p (hp : p ∈ before) => hW.lt p hp;have hold : ∀ p ∈ before, (fun b => decide (b < W.heap.size)) p.block = true := fun p hp => by simpa using hlt p hp
 refine ⟨ds, gs, before, [], pa, pv, hW, hres _ _ _, hargs _ hold, hvars _ hold, World.keptBut_mono (fun p hp => ⟨hp, ?_⟩) (hx.below.frame (· ∈ before)), fun _ => ?_⟩
 ·rw [hps, List.mem_append] at hp
  exact Or.inr hp
 ·obtain ⟨_, _, _, _, _, hz, hn⟩ := hW
  refine ⟨hok, _, _, ([] ++ pa) ++ pv, ⟨[] ++ pa, pv, trodAll_append (hargs _ (fun _ _ => rfl)) (hres _ _ _), hvars _ (fun _ _ => rfl), rfl, ?_, ?_⟩, ?_⟩
  ·intro b off hp
   have hm : MemPlace.cell b off ∈ before := by rw [hps]; simpa using hp
   rw [hx.fz _ (hlt _ hm)];exact hz b off hm
  ·intro ha
   have := hn ha;rw [hps] at this
   simpa using this
  ·intro p hp _
   rw [hps]
   simpa using hp
theorem V7.push {α : Type} [Flat α] {e : TypeId} {lo : Nat} {wa W w9 : World} {v v' : Value} {l : List α} {a : α} {Fs : List (List Nat)} {xs' : List Value} (h0 : wa.heap.size = 0) (hl : ∀ q, v.ownBlock = some q → lo ≤ q) (hW : lo ≤ W.heap.size) (hf : Fs.flatten = [])
  (h9 : App wa w9 e v' (l ++ [a]) (Fs ++ [[]]) xs') (hb : v'.ownBlock = v.ownBlock ∨ v'.ownBlock = some W.heap.size) : V7 e lo w9 v' (l ++ [a]) :=
 ⟨wa, _, xs', h0, ⟨h9, fun q hq => by
  rcases hb with hb | hb
  ·exact hl q (hb ▸ hq)
  ·rw [hb] at hq; injection hq with hq; omega, by simp [hf]⟩⟩
theorem Sl.bY8 {α : Type} [a9 α] {w : World} {S : Nat → Prop} {A : Option Addr} {n c : Nat} {l : List α} (h : Sl w S (.slice A n c) l) {k : Nat} (hk : k ≤ l.length) : Sl w S (.slice A k c) (l.take k) := by
 obtain ⟨A', c', e, h1, h2, h3, h4⟩ := h;injection e with e1 e2 e3;subst e1 e3;have hl : (l.take k).length = k := by rw [List.length_take]; omega
 refine ⟨A, c, by rw [hl], by rw [hl]; omega, h2, h3, fun hne => ?_⟩;obtain ⟨b, off, q1, q2, q3⟩ := h4 (by intro q; subst q; exact hne (by simp));refine ⟨b, off, q1, q2, fun i a ha => ?_⟩;rw [List.getElem?_take] at ha;split at ha
 ·exact q3 i a ha
 ·simp at ha
theorem U2.new {w : World} {A : Option Addr} {c : Nat} {code : List UInt8} (h : Sl w (Old w) (.slice A code.length c) code) (hn : code.length ≤ 2000) (T : TypeId) : U2 w.heap.size (w.heap.size + 1) 0 (w.alloc (.cells #[.slice A code.length c, .int .i64 0] T)) :=
 ⟨A, c, 0, code, {
  bx := Bx.new w #[.slice A code.length c, .int .i64 0] T
  fz := x7 w #[.slice A code.length c, .int .i64 0] T rfl
  le := Nat.le_refl _, lt := by omega, bs := by simp
  sl := h.keep ((Ext.refl w).alloc _).old (fun b hb => ⟨Nat.lt_succ_of_lt hb, fun e => by subst e; exact absurd hb (Nat.lt_irrefl _)⟩)
  ln := hn }⟩
theorem by9 (code : List UInt8) (v : Value) (w : World) (h : Sl w (Old w) v code) : Calls Tryz.prog 9 #[v] w fun e w' => e = .returned (.pointer (some ⟨w.heap.size, 0, none⟩)) ∧ U2 w.heap.size (w.heap.size + 1) 0 w' ∧ Ext w w' := by
 obtain ⟨A, c, rfl, hl, hm⟩ := h.form;unfold maxLen at hm;by_cases hb : 2000 < code.length
 ·have q1 : decide (2000 < (code.length : Int)) = true := decide_eq_true (by omega)
  have h2 := h.bY8 (k := 2000) (by omega);have hl2 : (code.take 2000).length = 2000 := by rw [List.length_take]; omega
  have hR := U2.new (A := A) (c := c) (by rw [hl2]; exact h2) (by omega) 59;rw [hl2] at hR;have hc2 : 2000 ≤ c := (by omega);go_enter Tryz.func9, Tryz.ntmps9;go_wp2;go_ret;exact ⟨rfl, hR, Ext.auto⟩
 ·have q1 : decide (2000 < (code.length : Int)) = false := decide_eq_false (by omega)
  have hR := U2.new h (by omega) 59;go_enter Tryz.func9, Tryz.ntmps9;go_wp2;go_ret;exact ⟨rfl, hR, Ext.auto⟩
open Go.ChangeShapes Go.WideShapes
theorem cf0 : Rd Tryz.prog 5 UInt8 := Rd.byte Tryz.underlying5 (by kernel_rfl)
theorem bv5 : Rd Tryz.prog 22 (List UInt8) := Rd.slice Tryz.underlying22 (by kernel_rfl) cf0
instance : Flat Q8 where
 pos := by decide
 flat h := ⟨h.1, h.2, rfl⟩
 one h u hu := by obtain ⟨rfl, _⟩ := h; simp at hu; rcases hu with rfl | rfl | rfl | rfl <;> rfl
theorem K0.ok {i : Q8} (h : K0 i) : i.Ok := by
 obtain ⟨⟨a1, a2⟩, ⟨b1, b2⟩, ⟨c1, c2⟩, ⟨d1, d2⟩⟩ := h;refine ⟨?_, ?_, ?_, ?_⟩ <;> (unfold Fits; omega)
def bi3 : j8 := ⟨[], [], 0, ⟨[]⟩, ⟨[]⟩, 0⟩
def s1 (s : j8) (k : Int) : j8 := { s with fin := 1, x := ⟨[]⟩, y := ⟨[]⟩, k := k }
def s8 (s : j8) : j8 := { s with x := s.y, y := s.x }
def aI3 (s : j8) : Bool := s5 s.x && s5 s.y
def aQ0 (s : j8) : Bool := (decide (s.x = s.y) && decide (s.fin = 3)) || (aI3 s && decide (s.fin = 4) && decide (s2 s.x < s2 s.y))
def aq5 (s : j8) (behind : Int) : j8 :=
 if (decide (s.x = s.y) || aI3 s) = true then s1 s (if aQ0 s = true then s.k else behind)
 else if (decide (s.fin = 3) && decide (0 < B4 s.x s.y)) = true then s8 s else s
def symEnd (s : j8) (behind : Int) : j8 :=
 if (O4 s.x && O4 s.y) = true then
  (if s.fin = 2 then (if s5 s.x = true then s1 s (s2 s.x) else s)
  else if s.fin = 3 ∨ s.fin = 4 then aq5 s behind else s)
 else bi3
theorem bD4 (rb base P : Nat) (w : World) (h : U2 rb base P w) (hP : P ≤ 1099511610000)  :
  Calls Tryz.prog 73 #[.pointer (some ⟨rb, 0, none⟩)] w fun e w' => (∃ v : Value, e = .returned v ∧ ∃ L : List Q8, V7 119 w.heap.size w' v L ∧ 1 ≤ L.length ∧ L.length ≤ 8 ∧ (∀ i, i ∈ L → K0 i)) ∧ U2 rb base (P + 80) w' ∧ Turn [rb] w w' := by
 have hlt := h.lt;have hlt1 := hlt.1;have hlt2 := hlt.2;clear hlt;obtain ⟨i0, hi, hz0, hz1, hz2⟩ := info_parts bU6;have HI := hide hi;have HZ0 := hide hz0;have HZ1 := hide hz1;have HZ2 := hide hz2;clear hi hz0 hz1 hz2;go_enter Tryz.func73, Tryz.ntmps73;go_upto_region 1 with fail;have he0 : Ext w w := Ext.refl _;have hs0 : w.heap.size ≤ w.heap.size := Nat.le_refl _;have hR0 : U2 rb base P w := h.ext he0;have hT0 : Turn [rb] w w := Turn.M8 he0 _;have hG0 := V7.empty (α := Q8) w 119;go_wp2_with fail;refine (N8 rb base _ _ (U2.hold hR0) (by omega) 8 (by omega) (by omega)).mono ?_;rintro e w1 ⟨⟨kk, rfl, lkk, qkk⟩, hR1, hy⟩;have ukk : kk < 8 := (by omega);clear qkk;have hGm := hG0.turn hy (fun q hq => by simp [Value.ownBlock] at hq; subst hq; simp; omega);have hs1 := hy.size;try simp at hs1
 have hT1 : Turn [rb] w w1 := (Turn.hold hT0).trans hy;clear hG0;go_wp2;go_loopw [3, 4] (fun v6 v7 wz => ∃ (L : List Q8) (A : Option Addr) (c : Nat) (r : Int), v6 = .slice A L.length c ∧ v7 = .int .i64 r ∧ 0 ≤ r ∧ r + L.length ≤ 7 ∧ Hid (∀ i, i ∈ L → K0 i) ∧ V7 119 w.heap.size wz (.slice A L.length c) L ∧ U2 rb base (P + 1 + 9 * L.length) wz ∧ Turn [rb] w wz) (fun _ v7 _ => (intOf v7).toNat);case atStart => exact ⟨[], _, 0, kk, rfl, rfl, by omega, by simp; omega, by intro i hi; simp at hi, hGm, (U2.hold hR1).up (by simp), hT1⟩
 case round =>
  obtain ⟨w4, hwr⟩ : ∃ w4 : World, w4 = wr := ⟨_, rfl⟩;subst hwr;clear hGm hR1 hT1;obtain ⟨L, A, c, r, rfl, rfl, hr0, hrL, HB, hG, hR, hT⟩ := hrel;have hGl := hG.lt;have hsw := hT.size;have hm1 := hG.form;by_cases hlr : 0 < r
  ·have q1 : decide (0 < r) = true := decide_eq_true hlr;go_wp2_with fail;refine (aZ4 rb base _ _ hR (by omega)).mono ?_;rintro e w5 ⟨⟨i, rfl, hi⟩, Z2, hy⟩;have hs5 := hy.size;have hG5 := hG.turn hy (fun q hq => by have := (hGl q hq).1; simp; omega);have hT5 := hT.trans hy;clear hy hG hR hT;have bu0 : Q8.Ok i := hi.ok;have bK1 := hi;obtain ⟨wa, Fs, xs, h00, hA⟩ := hG5;have hAf := hA.flat;go_wp2_with (at_builtin; go_must (refine G8 (α := Q8) (w0 := wa) (wr := w5) rfl _ _ 103 rfl i0 _ 32 Tryz.underlying103 HI.out HZ0.out HZ1.out HZ2.out rfl (by decide) hA.app rfl (i) #[.int .i64 i.op, .int .i64 i.d, .int .i64 i.a, .int .i64 i.k] 119 [] _ rfl Ext.auto ⟨rfl, bu0, rfl⟩ (Fr.nil _ _) (by repeat (first | (exact fun _ h => absurd h (List.not_mem_nil)) | (refine List.forall_mem_cons.2 ⟨rfl, ?_⟩))) (by unfold maxLen; omega) (by omega) ?_); intro v' w9 xs' C7 Y7 Z1; have t5 := V7.push h00 (fun q hq => (hGl q hq).1) (by simp; omega) hAf C7 Z1; have hT9 := (Turn.S0 (a := w5) (b := (w5.alloc (.cells #[.int .i64 i.op, .int .i64 i.d, .int .i64 i.a, .int .i64 i.k] 119))) Ext.auto Y7); obtain ⟨A9, c9, rfl, hl9, hm9⟩ := t5.form);have hR9 := Z2.turn hT9 (fun q hq => by have := (hGl q (by simpa using hq)).1; omega);have hTw := hT5.trans hT9 (fun q hq => .inr (hGl q (by simpa using hq)).1)
   have HB9 := hide (show ∀ j, j ∈ L ++ [i] → K0 j from fun j hj => by
    rcases List.mem_append.1 hj with hj | hj
    ·exact HB.out j hj
    ·simp at hj; subst hj; exact bK1)
   have hll : (L ++ [(i : Q8)]).length = L.length + 1 := by simp
   go_round
   case rel => exact ⟨L ++ [i], A9, c9, r - 1, by rw [hll], by go_num, by omega, by rw [hll]; omega, HB9, t5, hR9.up (by rw [hll]; omega), hTw⟩
   case measure => (simp [intOf]; try omega)
  ·have q1 : decide (0 < r) = false := decide_eq_false hlr;go_wp2_with fail;refine (N8 rb base _ _ hR (by omega) 3 (by omega) (by omega)).mono ?_;rintro e w5 ⟨⟨m, rfl, lm, qm⟩, Z2, hy⟩;have um : m < 3 := (by omega);clear qm;have hG5 := hG.turn hy (fun q hq => by have := (hGl q hq).1; simp; omega);have hT5 := hT.trans hy;have hs5 := hy.size;clear hG hR hT hy;have hc : m = 0 ∨ m = 1 ∨ m = 2 := (by omega);clear lm um;rcases hc with rfl | rfl | rfl
   ·go_wp2_with fail;refine (N8 rb base _ _ Z2 (by omega) 2 (by omega) (by omega)).mono ?_;rintro e w11 ⟨⟨x, rfl, lx, qx⟩, cm6, hy⟩;have ux : x < 2 := (by omega);clear qx;have cm7 := hG5.turn hy (fun q hq => by have := (hGl q hq).1; simp; omega);have cm8 := hT5.trans hy;have cz8 := hy.size;clear hy hG5 Z2 hT5;go_wp2_with fail;refine (N8 rb base _ _ cm6 (by omega) 4 (by omega) (by omega)).mono ?_;rintro e w12 ⟨⟨d, rfl, ld, qd⟩, cP4, hy⟩;have ud : d < 4 := (by omega);clear qd;have cP5 := cm7.turn hy (fun q hq => by have := (hGl q hq).1; simp; omega);have cP6 := cm8.trans hy;have cl1 := hy.size;clear hy cm7 cm6 cm8;go_wp2_with fail;refine (N8 rb base _ _ cP4 (by omega) 4 (by omega) (by omega)).mono ?_;rintro e w13 ⟨⟨a, rfl, la, qa⟩, cP7, hy⟩;have ua : a < 4 := (by omega);clear qa;have cP8 := cP5.turn hy (fun q hq => by have := (hGl q hq).1; simp; omega);have cP9 := cP6.trans hy;have da5 := hy.size;clear hy cP5 cP4 cP6;go_wp2_with fail;refine (N8 rb base _ _ cP7 (by omega) 64 (by omega) (by omega)).mono ?_;rintro e w14 ⟨⟨k, rfl, lk, qk⟩, dg7, hy⟩;have uk : k < 64 := (by omega);clear qk;have dg8 := cP8.turn hy (fun q hq => by have := (hGl q hq).1; simp; omega);have dg9 := cP9.trans hy;have dw5 := hy.size;clear hy cP8 cP7 cP9;have bu0 : Q8.Ok ⟨11 + x, d, a, k⟩ := K0.ok (by unfold K0; simp only []; omega);have bK1 : K0 ⟨11 + x, d, a, k⟩ := by unfold K0; simp only []; omega
    obtain ⟨wa, Fs, xs, h00, hA⟩ := dg8;have hAf := hA.flat;go_wp2_with (at_builtin; go_must (refine G8 (α := Q8) (w0 := wa) (wr := w14) rfl _ _ 103 rfl i0 _ 32 Tryz.underlying103 HI.out HZ0.out HZ1.out HZ2.out rfl (by decide) hA.app rfl (⟨11 + x, d, a, k⟩) #[.int .i64 (11 + x), .int .i64 d, .int .i64 a, .int .i64 k] 119 [] _ rfl Ext.auto ⟨rfl, bu0, rfl⟩ (Fr.nil _ _) (by repeat (first | (exact fun _ h => absurd h (List.not_mem_nil)) | (refine List.forall_mem_cons.2 ⟨rfl, ?_⟩))) (by unfold maxLen; omega) (by omega) ?_); intro v' w9 xs' C7 Y7 Z1; have t5 := V7.push h00 (fun q hq => (hGl q hq).1) (by simp; omega) hAf C7 Z1; have hT9 := (Turn.S0 (a := w14) (b := (w14.alloc (.cells #[.int .i64 (11 + x), .int .i64 d, .int .i64 a, .int .i64 k] 119))) Ext.auto Y7); obtain ⟨A9, c9, rfl, hl9, hm9⟩ := t5.form);have hR9 := dg7.turn hT9 (fun q hq => by have := (hGl q (by simpa using hq)).1; omega);have hTw := dg9.trans hT9 (fun q hq => .inr (hGl q (by simpa using hq)).1)
    have HB9 := hide (show ∀ j, j ∈ L ++ [⟨11 + x, d, a, k⟩] → K0 j from fun j hj => by
     rcases List.mem_append.1 hj with hj | hj
     ·exact HB.out j hj
     ·simp at hj; subst hj; exact bK1)
    have hll : (L ++ [(⟨11 + x, d, a, k⟩ : Q8)]).length = L.length + 1 := (by simp);rw [hll] at t5;go_ret;exact ⟨⟨_, rfl, _, t5, by rw [hll]; omega, by rw [hll]; omega, HB9.out⟩, hR9.up (by omega), hTw⟩
   ·go_wp2_with fail;refine (N8 rb base _ _ Z2 (by omega) 4 (by omega) (by omega)).mono ?_;rintro e w11 ⟨⟨a, rfl, la, qa⟩, cm6, hy⟩;have ua : a < 4 := (by omega);clear qa;have cm7 := hG5.turn hy (fun q hq => by have := (hGl q hq).1; simp; omega);have cm8 := hT5.trans hy;have cz8 := hy.size;clear hy hG5 Z2 hT5;have bu0 : Q8.Ok ⟨13, 0, a, 0⟩ := K0.ok (by unfold K0; simp only []; omega);have bK1 : K0 ⟨13, 0, a, 0⟩ := by unfold K0; simp only []; omega
    obtain ⟨wa, Fs, xs, h00, hA⟩ := cm7;have hAf := hA.flat;go_wp2_with (at_builtin; go_must (refine G8 (α := Q8) (w0 := wa) (wr := w11) rfl _ _ 103 rfl i0 _ 32 Tryz.underlying103 HI.out HZ0.out HZ1.out HZ2.out rfl (by decide) hA.app rfl (⟨13, 0, a, 0⟩) #[.int .i64 13, .int .i64 0, .int .i64 a, .int .i64 0] 119 [] _ rfl Ext.auto ⟨rfl, bu0, rfl⟩ (Fr.nil _ _) (by repeat (first | (exact fun _ h => absurd h (List.not_mem_nil)) | (refine List.forall_mem_cons.2 ⟨rfl, ?_⟩))) (by unfold maxLen; omega) (by omega) ?_); intro v' w9 xs' C7 Y7 Z1; have t5 := V7.push h00 (fun q hq => (hGl q hq).1) (by simp; omega) hAf C7 Z1; have hT9 := (Turn.S0 (a := w11) (b := (w11.alloc (.cells #[.int .i64 13, .int .i64 0, .int .i64 a, .int .i64 0] 119))) Ext.auto Y7); obtain ⟨A9, c9, rfl, hl9, hm9⟩ := t5.form);have hR9 := cm6.turn hT9 (fun q hq => by have := (hGl q (by simpa using hq)).1; omega);have hTw := cm8.trans hT9 (fun q hq => .inr (hGl q (by simpa using hq)).1)
    have HB9 := hide (show ∀ j, j ∈ L ++ [⟨13, 0, a, 0⟩] → K0 j from fun j hj => by
     rcases List.mem_append.1 hj with hj | hj
     ·exact HB.out j hj
     ·simp at hj; subst hj; exact bK1)
    have hll : (L ++ [(⟨13, 0, a, 0⟩ : Q8)]).length = L.length + 1 := (by simp);rw [hll] at t5;go_ret;exact ⟨⟨_, rfl, _, t5, by rw [hll]; omega, by rw [hll]; omega, HB9.out⟩, hR9.up (by omega), hTw⟩
   ·go_wp2_with fail;refine (aZ4 rb base _ _ Z2 (by omega)).mono ?_;rintro e w6 ⟨⟨i, rfl, hi⟩, hR6, hy⟩;have hs6 := hy.size;have hG6 := hG5.turn hy (fun q hq => by have := (hGl q hq).1; simp; omega);have hT6 := hT5.trans hy;clear hy hG5 Z2 hT5;have bu0 : Q8.Ok i := hi.ok;have bK1 := hi;obtain ⟨wa, Fs, xs, h00, hA⟩ := hG6;have hAf := hA.flat;go_wp2_with (at_builtin; go_must (refine G8 (α := Q8) (w0 := wa) (wr := w6) rfl _ _ 103 rfl i0 _ 32 Tryz.underlying103 HI.out HZ0.out HZ1.out HZ2.out rfl (by decide) hA.app rfl (i) #[.int .i64 i.op, .int .i64 i.d, .int .i64 i.a, .int .i64 i.k] 119 [] _ rfl Ext.auto ⟨rfl, bu0, rfl⟩ (Fr.nil _ _) (by repeat (first | (exact fun _ h => absurd h (List.not_mem_nil)) | (refine List.forall_mem_cons.2 ⟨rfl, ?_⟩))) (by unfold maxLen; omega) (by omega) ?_); intro v' w9 xs' C7 Y7 Z1; have t5 := V7.push h00 (fun q hq => (hGl q hq).1) (by simp; omega) hAf C7 Z1; have hT9 := (Turn.S0 (a := w6) (b := (w6.alloc (.cells #[.int .i64 i.op, .int .i64 i.d, .int .i64 i.a, .int .i64 i.k] 119))) Ext.auto Y7); obtain ⟨A9, c9, rfl, hl9, hm9⟩ := t5.form);have hR9 := hR6.turn hT9 (fun q hq => by have := (hGl q (by simpa using hq)).1; omega);have hTw := hT6.trans hT9 (fun q hq => .inr (hGl q (by simpa using hq)).1)
    have HB9 := hide (show ∀ j, j ∈ L ++ [i] → K0 j from fun j hj => by
     rcases List.mem_append.1 hj with hj | hj
     ·exact HB.out j hj
     ·simp at hj; subst hj; exact bK1)
    have hll : (L ++ [(i : Q8)]).length = L.length + 1 := (by simp);rw [hll] at t5;go_ret;exact ⟨⟨_, rfl, _, t5, by rw [hll]; omega, by rw [hll]; omega, HB9.out⟩, hR9.up (by omega), hTw⟩
end Go.Proofs.YtmbclopkopfngaaGreat
