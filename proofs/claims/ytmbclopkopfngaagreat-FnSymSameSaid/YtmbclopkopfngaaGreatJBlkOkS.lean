/-
 BlkOkS, SymQ, LowB
-/
import Derived.Test.YtmbclopkopfngaaGreatJSymA
import Derived.Test.YtmbclopkopfngaaGreatJLowT
import Derived.Deep.CutBlock
set_option maxHeartbeats 64000000
namespace Go.Proofs.YtmbclopkopfngaaGreat
open Go.RowKit
set_option linter.unusedVariables false
set_option linter.unusedSimpArgs false
set_option maxRecDepth 100000
def al7 (i : Q8) : Bool := Q2 i && (i.op != 0) && !bb5 i.op
theorem bH1 {l : List Q8} {k : Nat} (hk : k < l.length) (h : al7 l[k] = true) : aT6 l k = true := by
 unfold al7 at h;rw [av7 hk];simp only [Bool.and_eq_true] at h ⊢;exact ⟨h.1, by rw [h.2]; rfl⟩
theorem bH2 {l : List Q8} {k : Nat} (hk : k + 1 < l.length) (h : al7 l[k] = false) : aT6 l k = false := by
 rw [av7 (by omega), decide_eq_false (by omega : ¬ k + 1 = l.length), Bool.or_false];exact h
theorem cj3 {op : Int} (h : bb5 op = true) : (op != 0) = true := by
 unfold bb5 at h;simp only [Bool.or_eq_true, beq_iff_eq] at h;simp only [bne_iff_ne, ne_eq];omega
theorem bR2 {l : List Q8} {k : Nat} (hk : k < l.length) (hl : ¬ k + 1 < l.length) (h0 : Q2 l[k] = true) (h1 : bb5 l[k].op = true) : aT6 l k = true := by
 rw [av7 hk, h0, cj3 h1, decide_eq_true (by omega : k + 1 = l.length)];simp
theorem bW2 {l : List Q8} {k : Nat} (hk : k < l.length) (h : Q2 l[k] = false) : aT6 l k = false := by
 rw [av7 hk, h]; rfl
theorem bR3 {l : List Q8} {k : Nat} (hk : k < l.length) (h : al7 l[k] = false) (h0 : Q2 l[k] = true) (h1 : bb5 l[k].op = false) : aT6 l k = false := by
 unfold al7 at h;rw [h0, h1] at h;rw [av7 hk, h0, h1]
 simpa using h
theorem aq0 (op : Int) (w : World) : Calls Tryz.prog 104 #[.int .i64 op] w fun e w' => e = .returned (.bool (bb5 op)) ∧ w = w' := by
 cases q0 : (op == 11) <;> cases q1 : (op == 12) <;> cases q2 : (op == 13)
 all_goals
  have HE := hide (show bb5 op = ((op == 11) || (op == 12) || (op == 13)) from rfl);rw [q0, q1, q2] at HE;go_enter Tryz.func104, Tryz.ntmps104;go_wp2;go_ret;exact ⟨by rw [HE.out]; rfl, rfl⟩
theorem aL8 (i : Q8) (w : World) : Calls Tryz.prog 102 #[.agg #[.int .i64 i.op, .int .i64 i.d, .int .i64 i.a, .int .i64 i.k]] w fun e w' => e = .returned (.bool (al7 i)) ∧ Ext w w' := by
 cases q0 : Q2 i
 ·have HC := hide (show al7 i = false by unfold al7; rw [q0]; rfl);go_enter Tryz.func102, Tryz.ntmps102;go_upto_region 1 with fail;obtain ⟨w0, J3, he0, hs0, hq0, d8, N4⟩ := new1 w [.int .i64 i.op, .int .i64 i.d, .int .i64 i.a, .int .i64 i.k] 119;rw [J3];clear J3;have yi : w.heap.size < w0.heap.size := (by omega);have S6 := d8 0 _ rfl;have S7 := d8 1 _ rfl;have S8 := d8 2 _ rfl;have T0 := d8 3 _ rfl;have fi := N4;go_wp2_with fail;refine (N5 i _).mono ?_;rintro e w1 ⟨rfl, hy⟩;simp only [q0];clear S6 S7 S8 T0 yi;clear fi;have hs1 := hy.size;try simp at hs1
  have he1 : Ext w w1 := Ext.trans (Ext.hold he0) hy;have R0 := hy.s9 d8;have aD3 := hy.t3 N4;try clear d8 N4
  clear hy;have yi : w.heap.size < w1.heap.size := (by omega);have S6 := R0 0 _ rfl;have S7 := R0 1 _ rfl;have S8 := R0 2 _ rfl;have T0 := R0 3 _ rfl;have fi := aD3;go_wp2;go_ret;exact ⟨by rw [HC.out]; rfl, Ext.hold he1⟩
 cases q1 : (i.op != 0)
 ·have HC := hide (show al7 i = false by unfold al7; rw [q0, q1]; rfl);go_enter Tryz.func102, Tryz.ntmps102;go_upto_region 1 with fail;obtain ⟨w0, J3, he0, hs0, hq0, d8, N4⟩ := new1 w [.int .i64 i.op, .int .i64 i.d, .int .i64 i.a, .int .i64 i.k] 119;rw [J3];clear J3;have yi : w.heap.size < w0.heap.size := (by omega);have S6 := d8 0 _ rfl;have S7 := d8 1 _ rfl;have S8 := d8 2 _ rfl;have T0 := d8 3 _ rfl;have fi := N4;go_wp2_with fail;refine (N5 i _).mono ?_;rintro e w1 ⟨rfl, hy⟩;simp only [q0];clear S6 S7 S8 T0 yi;clear fi;have hs1 := hy.size;try simp at hs1
  have he1 : Ext w w1 := Ext.trans (Ext.hold he0) hy;have R0 := hy.s9 d8;have aD3 := hy.t3 N4;try clear d8 N4
  clear hy;have yi : w.heap.size < w1.heap.size := (by omega);have S6 := R0 0 _ rfl;have S7 := R0 1 _ rfl;have S8 := R0 2 _ rfl;have T0 := R0 3 _ rfl;have fi := aD3;go_wp2;go_ret;exact ⟨by rw [HC.out]; rfl, Ext.hold he1⟩
 ·have HC := hide (show al7 i = !bb5 i.op by unfold al7; rw [q0, q1]; rfl);go_enter Tryz.func102, Tryz.ntmps102;go_upto_region 1 with fail;obtain ⟨w0, J3, he0, hs0, hq0, d8, N4⟩ := new1 w [.int .i64 i.op, .int .i64 i.d, .int .i64 i.a, .int .i64 i.k] 119;rw [J3];clear J3;have yi : w.heap.size < w0.heap.size := (by omega);have S6 := d8 0 _ rfl;have S7 := d8 1 _ rfl;have S8 := d8 2 _ rfl;have T0 := d8 3 _ rfl;have fi := N4;go_wp2_with fail;refine (N5 i _).mono ?_;rintro e w1 ⟨rfl, hy⟩;simp only [q0];clear S6 S7 S8 T0 yi;clear fi;have hs1 := hy.size;try simp at hs1
  have he1 : Ext w w1 := Ext.trans (Ext.hold he0) hy;have R0 := hy.s9 d8;have aD3 := hy.t3 N4;try clear d8 N4
  clear hy;have yi : w.heap.size < w1.heap.size := (by omega);have S6 := R0 0 _ rfl;have S7 := R0 1 _ rfl;have S8 := R0 2 _ rfl;have T0 := R0 3 _ rfl;have fi := aD3;go_wp2_with fail;refine (aq0 i.op _).mono ?_;rintro e w' ⟨rfl, rfl⟩;cases q2 : bb5 i.op
  ·rw [q2] at HC;go_wp2;go_ret;exact ⟨by rw [HC.out]; rfl, Ext.hold he1⟩
  ·rw [q2] at HC;go_wp2;go_ret;exact ⟨by rw [HC.out]; rfl, Ext.hold he1⟩
theorem aJ6 (pc : Int) (l : List Q8) (v : Value) (w : World) (h : Sl w (Old w) v l) (hp : Fits pc) :
  Calls Tryz.prog 93 #[.int .i64 pc, v] w fun e w' => e = .returned (.bool (aj4 pc l)) ∧ Ext w w' := by
 obtain ⟨Al, cl, rfl, hll, hml⟩ := h.form;unfold maxLen at hml;have hw64 : IntKind.i64.wrap (64 - (l.length : Int)) = 64 - (l.length : Int) := by rw [IntKind.wrap_i64]; omega
 cases q0 : D2 (l.length : Int) 1 8
 ·have HC := hide (show aj4 pc l = false by unfold aj4; rw [q0]; rfl)
  go_enter Tryz.func93, Tryz.ntmps93;go_wp2_with (go_at_call 52; refine (N7 _ _ _ _).mono ?_; rintro e w' ⟨rfl, rfl⟩);go_ret;exact ⟨by rw [HC.out]; rfl, Ext.auto⟩
 cases q1 : D2 pc 0 (64 - (l.length : Int))
 ·have HC := hide (show aj4 pc l = false by unfold aj4; rw [q0, q1]; rfl)
  go_enter Tryz.func93, Tryz.ntmps93;go_wp2_with (go_at_call 52; refine (N7 _ _ _ _).mono ?_; rintro e w' ⟨rfl, rfl⟩);go_ret;exact ⟨by rw [HC.out]; rfl, Ext.auto⟩
 have HY := hide (fun hall : aD4 l l.length => bR4 q0 q1 hall);have HNO := hide (fun (k : Nat) (hk : k < l.length) (hno : aT6 l k = false) => bW3 (pc := pc) hk hno);have hlen := (as5.1 q0).2;go_enter Tryz.func93, Tryz.ntmps93;go_wp2_with (go_at_call 52; refine (N7 _ _ _ _).mono ?_; rintro e w' ⟨rfl, rfl⟩);go_loopw [5] (fun vk wz => ∃ k : Nat, vk = .int .i64 (k : Int) ∧ k ≤ l.length ∧ Hid (aD4 l k) ∧ Ext w wz) (fun vk _ => l.length - (intOf vk).toNat);case atStart => exact ⟨0, rfl, by omega, aD4.zero l, Ext.auto⟩
 case round =>
  obtain ⟨w1, hwr⟩ : ∃ w1 : World, w1 = wr := ⟨_, rfl⟩;subst hwr;obtain ⟨k, rfl, hle, HN, hE⟩ := hrel;by_cases hlt : k < l.length
  ·have h1 := h.ext hE
   obtain ⟨b, off, rfl, hbo, hk0, e0, e1, e2, e3⟩ := aI0 h1 hlt;have z0 : (0 : Int) ≤ (k : Int) := (by omega);have z1 : (k : Int) < (l.length : Int) := (by omega);have zl : IntKind.i64.wrap ((l.length : Int) - 1) = (l.length : Int) - 1 := by rw [IntKind.wrap_i64]; omega
   cases p : al7 l[k]
   ·have HP := hide p
    clear p;by_cases hin : k + 1 < l.length
    ·have HF := hide (HNO.out k hlt (bH2 hin HP.out))
     have z2 : decide ((k : Int) < (l.length : Int) - 1) = true := decide_eq_true (by omega);go_wp2_with (go_at_call 102; refine (aL8 l[k] _).mono ?_; rintro e w2 ⟨rfl, hy⟩; rw [HP.out]);go_ret;exact ⟨by rw [HF.out]; rfl, hE.trans hy⟩
    ·have z2 : decide ((k : Int) < (l.length : Int) - 1) = false := decide_eq_false (by omega)
     go_wp2_with fail;refine (aL8 l[k] _).mono ?_;rintro e w2 ⟨rfl, hy⟩;rw [HP.out];clear e0 e1 e2 e3;obtain ⟨b', off', hb', aC6, dp1, e0, e1, e2, e3⟩ := aI0 (h1.ext hy) hlt;cases hb';cases p0 : Q2 l[k]
     ·have HF := hide (HNO.out k hlt (bW2 hlt p0))
      have HQ := hide p0;clear p0;go_wp2_with (go_at_call 103; refine (N5 l[k] _).mono ?_; rintro e w3 ⟨rfl, hy3⟩; rw [HQ.out]);go_ret;exact ⟨by rw [HF.out]; rfl, (hE.trans hy).trans hy3⟩
     ·have HQ := hide p0
      clear p0;go_wp2_with fail;refine (N5 l[k] _).mono ?_;rintro e w3 ⟨rfl, hy3⟩;rw [HQ.out];clear e0 e1 e2 e3;obtain ⟨b', off', hb', aT7, dp2, e0, e1, e2, e3⟩ := aI0 ((h1.ext hy).ext hy3) hlt;cases hb';cases p1 : bb5 l[k].op
      ·have HF := hide (HNO.out k hlt (bR3 hlt HP.out HQ.out p1))
       have HR := hide p1;clear p1;go_wp2_with (go_at_call 104; refine (aq0 l[k].op _).mono ?_; rintro e w4 ⟨rfl, rfl⟩; rw [HR.out]);go_ret;exact ⟨by rw [HF.out]; rfl, (hE.trans hy).trans hy3⟩
      ·have HT := hide (HN.out.next (bR2 hlt hin HQ.out p1))
       have HR := hide p1;clear p1;go_wp2_with (go_at_call 104; refine (aq0 l[k].op _).mono ?_; rintro e w4 ⟨rfl, rfl⟩; rw [HR.out])
       go_round
       case rel => exact ⟨k + 1, by go_num, by omega, HT, (hE.trans hy).trans hy3⟩
       case measure => (simp [intOf]; try omega)
   ·have HT := hide (HN.out.next (bH1 hlt p))
    have HP := hide p;clear p;go_wp2_with (go_at_call 102; refine (aL8 l[k] _).mono ?_; rintro e w2 ⟨rfl, hy⟩; rw [HP.out])
    go_round
    case rel => exact ⟨k + 1, by go_num, by omega, HT, hE.trans hy⟩
    case measure => (simp [intOf]; try omega)
  ·obtain rfl : k = l.length := by omega
   have HF := hide (HY.out HN.out);go_wp2;go_ret;exact ⟨by rw [HF.out]; rfl, hE⟩
section
variable {ρ : Nat → Nat} {wb w w' : World} {B : List (Nat × List Value)} {g off c : Nat} {vu vv ve : Value} {t : p4} {m : Nat} {regs vals : List G6} {evs : List X8} {tmp : List (Value × G6)}
theorem Z5.at (h : Z5 ρ wb B w g off c vu vv ve t m regs vals evs tmp) (i : Nat) {b : Nat} {cs : List Value} (hi : B[i]? = some (b, cs)) : Bx w b cs := (h.box _ (List.mem_of_getElem? hi)).bx
theorem Z5.in_ (h : Z5 ρ wb B w g off c vu vv ve t m regs vals evs tmp) (i : Nat) {b : Nat} {cs : List Value} (hi : B[i]? = some (b, cs)) : b < w.heap.size := (h.box _ (List.mem_of_getElem? hi)).lt
theorem Z5.fr_ (h : Z5 ρ wb B w g off c vu vv ve t m regs vals evs tmp) (i : Nat) {b : Nat} {cs : List Value} (hi : B[i]? = some (b, cs)) : ∀ oo, w.frozen? ⟨b, oo, none⟩ = false := (h.box _ (List.mem_of_getElem? hi)).fz
theorem Z5.of (h : Z5 ρ wb B w g off c vu vv ve t m regs vals evs tmp) {A : Option Addr} {c0 : Nat} (hv : vv = .slice A vals.length c0) (k : Int) (hn : vals.length ≤ 4194304) : Calls Tryz.prog 34 #[.slice A vals.length c0, .int .i64 k] w fun e w' => ∃ (A1 : Option Addr) (p : G6) (c1 : Nat), e = .returned (.agg #[.slice A1 p.j3.length c1]) ∧ Ext w w' ∧ Z5 ρ wb B w' g off c vu vv ve t m regs vals evs ((.slice A1 p.j3.length c1, p) :: tmp) := by
 by_cases hk : 0 ≤ k ∧ k < (vals.length : Int)
 ·obtain ⟨j, rfl⟩ : ∃ j : Nat, k = (j : Int) := ⟨k.toNat, by omega⟩
  have hj : j < vals.length := (by omega);obtain ⟨b, o, A1, p, c1, rfl, hb, hc, H⟩ := h.cx5 hv hj;exact (cj4 b o vals.length c0 j hj A1 p.j3.length c1 w hc hb hn).mono fun e w' ⟨he, hx⟩ => ⟨A1, p, c1, he, hx, H.ext hx⟩
 ·exact (bW4 A vals.length c0 k (by omega) w).mono fun e w' ⟨he, hx⟩ => ⟨none, ⟨[]⟩, 0, he, hx, (h.ext hx).hold (p := ⟨[]⟩) (Sl.nil _ _) (K1 (t.atoms.length : Int)).1 (K1 (t.atoms.length : Int)).2⟩
theorem Z5.bM6 (h : Z5 ρ wb B w g off c vu vv ve t m regs vals evs tmp) {k : Nat} (hk : k < 4) : ∃ u, w.cell? ⟨g, off + k, none⟩ = some u := by
 obtain ⟨R1, r1, q1⟩ := h.reg;have hkR : k < R1.length := by rw [q1.1, h.len.1]; exact hk
 have hkr : k < regs.length := by rw [h.len.1]; exact hk
 obtain ⟨vs, k1, k2⟩ := r1.els k R1[k] (List.getElem?_eq_getElem hkR);have k1 : vs = R1[k].vs := k1;obtain ⟨v, hv, -, hs⟩ := q1.2 k regs[k] R1[k] (List.getElem?_eq_getElem hkr) (List.getElem?_eq_getElem hkR);have hcell := k2 0 v (by rw [k1, hv]; rfl);exact ⟨v, by rw [← hcell]; show _ = w.cell? ⟨g, off + (k * 1 + 0), none⟩; rw [Nat.mul_one, Nat.add_zero]⟩
theorem Stl.ext {α : Type} [a9 α] {v : Value} {l : List α} (h : Sl w (Stl ρ w) v l) (k : Ext w w') : Sl w' (Stl ρ w') v l := h.keep (fun b o hb => k.cell hb.1) (fun b hb => ⟨Nat.lt_of_lt_of_le hb.1 k.size, hb.2⟩)
theorem Stl.set {α : Type} [a9 α] {v : Value} {l : List α} (h : Sl w (Stl ρ w) v l) {b : Nat} (hb : ρ b ≠ 0) (j : Nat) (u : Value) : Sl (w.setCell ⟨b, j, none⟩ u) (Stl ρ (w.setCell ⟨b, j, none⟩ u)) v l :=
 h.keep (fun x o hx => World.cell?_setCell_other _ _ _ _ (by intro e; injection e with e; exact hb (e ▸ hx.2))) (fun x hx => ⟨by have := hx.1; simpa using this, hx.2⟩)
end
theorem az0 : aO4.length = 4 := rfl
theorem bf5 {l : List G6} (h4 : l.length = 4) (h : ∀ p, p ∈ l → O4 p = true) : Q7.blk l ≤ 300 := by
 have hs : ∀ k, k ≤ l.length → aT8 l k ≤ 60 * k := by
  intro k
  induction k with
  | zero => intro _; rw [aT9]; omega
  | succ k ih =>
   intro hk;rw [aI1 l k (by omega)];have h1 := ih (by omega);have h2 : Q7.blk l[k] ≤ 60 := al8 (h _ (List.getElem_mem _));omega
 have := hs l.length (Nat.le_refl _);have h5 := bf6 l;omega
theorem bH3 : ∀ p, p ∈ aO4 → O4 p = true := by decide
theorem cx6 {k : Int} (h0 : 0 ≤ k) (h1 : k < 4) (n : Int) : U8 ⟨1, k, ⟨[]⟩, ⟨[]⟩⟩ n = true := by
 unfold U8;rw [if_pos rfl];simp [D2, al1];omega
theorem bW5 {ops : List J7} {o : J7} {n size : Int} (h : P0 ops o n size = true) : (o.kind = 1 ∧ i3 o.k = true) ∨ (o.kind = 2 ∧ D2 o.k 0 3 = true) ∨ (o.kind = 8 ∧ D2 o.k 0 3 = true) ∨ (o.kind = 3 ∧ D2 o.k 1 5 = true) ∨ (o.kind = 4 ∨ o.kind = 6) ∨ (o.kind = 5 ∨ o.kind = 7) := by
 unfold P0 at h;repeat' split at h
 all_goals first | (simp only [Bool.and_eq_true] at h; rename_i hk; first | exact .inl ⟨hk, h.1.2⟩ | exact .inr (.inl ⟨hk, h.1.2⟩) | exact .inr (.inr (.inl ⟨hk, h.1.2⟩)) | exact .inr (.inr (.inr (.inl ⟨hk, h.1.2⟩))) | omega) | omega | cases h
theorem bW6 {l : List Q8} {pc : Int} (h : aj4 pc l = true) {k : Nat} (hk : k < l.length) : cI1 l[k] ∧ 1 ≤ l[k].op := by
 have hh := (bq4.1 h).2.2 k hk;rw [av7 hk] at hh;simp only [Bool.and_eq_true, bne_iff_ne, ne_eq] at hh;have r := cX0 hh.1.1;have := r.o0;exact ⟨r, by omega⟩
theorem bx4 (b : D9) (i : Q8) (at_ : Int) : (y4 b i at_).ops.length ≤ b.ops.length + 5 := by
 rw [bx5, List.length_append];have := (bH4 b.ops.length i at_).2;omega
theorem aO5 (pc : Int) (list : List Q8) (v : Value) (w : World) (h : Sl w (Old w) v list) (hp : Fits pc) :
  Calls Tryz.prog 74 #[.int .i64 pc, v] w fun e w' => ∃ (A : Option Addr) (c : Nat), e = .returned (.agg #[.int .i64 ((y6 pc list).pc), .int .i64 ((y6 pc list).len), .slice A (y6 pc list).ops.length c, .int .i64 ((y6 pc list).fin), .int .i64 ((y6 pc list).x), .int .i64 ((y6 pc list).y), .int .i64 ((y6 pc list).k)]) ∧ V7 73 w.heap.size w' (.slice A (y6 pc list).ops.length c) (y6 pc list).ops ∧ Ext w w' ∧ (y6 pc list).Ok ∧ (y6 pc list).ops.length ≤ 40 ∧ 0 ≤ (y6 pc list).len ∧ (y6 pc list).len ≤ 9 := by
 obtain ⟨Al, cl, rfl, hll, hml⟩ := h.form;unfold maxLen at hml;go_enter Tryz.func74, Tryz.ntmps74;go_upto_region 1 with fail;obtain ⟨w0, J3, he0, hs0, hq0, j4, l9⟩ := new1 w [.int .i64 0, .int .i64 0, .slice none 0 0, .int .i64 0, .int .i64 0, .int .i64 0, .int .i64 0] 39;rw [J3];clear J3;have hK : U9 [] (.slice none 0 0) (.slice none 0 0) w w0 := (U9.refl _ _ _).ext he0;have hG : V7 73 w.heap.size w0 (.slice none 0 0) ([] : List J7) := V7.nil _ _ _;have l5 : Bk (.slice none 0 0) w0 _ _ := ⟨j4, l9, (fun q hq e => by simp [Value.ownBlock] at hq), by omega⟩;clear j4 l9;cases q0 : aj4 pc list
 ·have HC := hide (show y6 pc list = aI2 by unfold y6; rw [if_neg (by rw [q0]; simp)]);go_wp2_with fail;refine (aJ6 pc list _ _ (h.ext he0) hp).mono ?_;rintro e w1 ⟨rfl, hy⟩;rw [q0];have hs1 := hy.size;have hyg : U9 [] (.slice none 0 0) (.slice none 0 0) w0 w1 := (U9.refl _ _ _).ext hy;replace hK := hK.trans hyg;replace hG := hG.ext hy;replace l5 := l5.grew hyg;clear hy hyg;have I6 := l5.lt;have l6 := l5.bx 0 _ rfl;have y5 := l5.bx 1 _ rfl;have y7 := l5.bx 2 _ rfl;have y8 := l5.bx 3 _ rfl;have C8 := l5.bx 4 _ rfl;have D7 := l5.bx 5 _ rfl;have I7 := l5.bx 6 _ rfl;have J8 := l5.fz;go_wp2;refine bodyPost_ret (v := .agg #[.int .i64 0, .int .i64 0, .slice none 0 0, .int .i64 0, .int .i64 0, .int .i64 0, .int .i64 0]) (by simp [results, Tryz.results74, go_sem, l6, y5, y7, y8, C8, D7, I7]) rfl ?_;rw [HC.out];exact ⟨none, 0, rfl, V7.nil _ _ _, Ext.hold (hK.cp7 (Ext.refl w) (by simp) (fun q hq => by simp [Value.ownBlock] at hq)), by unfold aI2 D9.Ok Fits; simp, by simp [aI2], by simp [aI2], by simp [aI2]⟩
 ·have HQ := hide q0;have hbk := bq4.1 q0;have hl1 := hbk.1.1;have hl8 := hbk.1.2;have hp0 := hbk.2.1.1;have hp1 := hbk.2.1.2;clear hbk;have HC := hide (show y6 pc list = aB8 (aD5 pc list.length) 0 list by unfold y6; rw [if_pos q0]);have zw : IntKind.i64.wrap (pc + (list.length : Int)) = pc + (list.length : Int) := by rw [IntKind.wrap_i64]; omega
  go_wp2_with fail;refine (aJ6 pc list _ _ (h.ext he0) hp).mono ?_;rintro e w1 ⟨rfl, hy⟩;rw [q0];have hs1 := hy.size;have hyg : U9 [] (.slice none 0 0) (.slice none 0 0) w0 w1 := (U9.refl _ _ _).ext hy;replace hK := hK.trans hyg;replace hG := hG.ext hy;replace l5 := l5.grew hyg;clear hy hyg;clear q0;go_upto_region 4 with fail;generalize ho : Obj.cells #[.int .i64 pc, .int .i64 ((list.length : Int)), (.slice none 0 0), .int .i64 1, .int .i64 0, .int .i64 0, .int .i64 ((pc + (list.length : Int)))] 39 = o;have K4 := Bk.new hG ho;replace hK := hK.alloc o;replace hG := hG.alloc o;have hs2 : w1.heap.size + 1 ≤ (w1.alloc o).heap.size := (by simp);replace l5 := l5.alloc o;generalize w1.alloc o = w2 at *;clear ho;go_wp2;go_loopw [6] (fun vk wz => ∃ (k : Nat) (A : Option Addr) (c : Nat) (L : List J7) (fin x y k9 : Int), vk = .int .i64 (k : Int) ∧ k ≤ list.length ∧ Hid ((⟨pc, (list.length : Int), L, fin, x, y, k9⟩ : D9) = aB8 (aD5 pc list.length) 0 (list.take k)) ∧ L.length ≤ 5 * k ∧ (Fits fin ∧ Fits x ∧ Fits y ∧ Fits k9) ∧ V7 73 w.heap.size wz (.slice A L.length c) L ∧ U9 [] (.slice none 0 0) (.slice A L.length c) w wz ∧ Bk (.slice A L.length c) wz w1.heap.size [.int .i64 pc, .int .i64 ((list.length : Int)), (.slice A L.length c), .int .i64 fin, .int .i64 x, .int .i64 y, .int .i64 k9] ∧ Bk (.slice A L.length c) wz (w.heap.size) [.int .i64 0, .int .i64 0, .slice none 0 0, .int .i64 0, .int .i64 0, .int .i64 0, .int .i64 0] ∧ w2.heap.size ≤ wz.heap.size) (fun vk _ => list.length - (intOf vk).toNat);case atStart => exact ⟨0, none, 0, [], 1, 0, 0, pc + (list.length : Int), rfl, by omega, rfl, by simp, ⟨by unfold Fits; omega, by unfold Fits; omega, by unfold Fits; omega, by unfold Fits; omega⟩, hG, hK, K4, l5, Nat.le_refl _⟩
  case round =>
   obtain ⟨w3, hwr⟩ : ∃ w3 : World, w3 = wr := ⟨_, rfl⟩;subst hwr;clear hG hK K4 l5;obtain ⟨k, A, c, L, fin, x, y, k9, rfl, hkl, HL, hL5, hb, hG, hK, K4, l5, hs3⟩ := hrel;have hE : Ext w w3 := hK.cp7 (Ext.refl w) (by simp) (fun q hq => by simp [Value.ownBlock] at hq);have hsw := hE.size;by_cases hlt : k < list.length
   ·have hri := bW6 HQ.out hlt;have HN := hide (bH5 (b := aD5 pc list.length) hlt);have r := hri.1;have r1 := hri.2;have r2 := r.o1;have r3 := r.d0;have r4 := r.d1;have r5 := r.a0;have r6 := r.a1;have r7 := r.k0;have r8 := r.k1;have r9 := r.shift;clear r hri;obtain ⟨bl, off, rfl, hbo, hk0, e0, e1, e2, e3⟩ := aI0 (h.ext hE) hlt;have bb6 : bl < w3.heap.size := hbo;have z0 : (0 : Int) ≤ (k : Int) := (by omega);have z1 : (k : Int) < (list.length : Int) := (by omega);have q1 : decide ((k : Int) < (list.length : Int)) = true := decide_eq_true z1;have yb := K4.lt;have O9 := K4.bx 0 _ rfl;have R6 := K4.bx 1 _ rfl;have R7 := K4.bx 2 _ rfl;have R8 := K4.bx 3 _ rfl;have U1 := K4.bx 4 _ rfl;have X0 := K4.bx 5 _ rfl;have b5 := K4.bx 6 _ rfl;have fb := K4.fz;go_upto_region 7 with fail;have hS : ∀ w', Ext w3 w' → ∀ bb oo, bb < w3.heap.size → w'.cell? ⟨bb, oo, none⟩ = w3.cell? ⟨bb, oo, none⟩ := fun w' hx bb oo hb => hx.cell hb;refine l8 (fun w' => Ext w3 w') 6 (.float 0 (.float 1 (.float 2 (.float 3 (.float 4 (.float 5 (.tail 6))))))) (by kernel_rfl) (by kernel_rfl) (Ext.refl _).drew ?_;iterate 6 ((refine Plan.j6 (v := ?_) rfl (by rfl) (fun _ _ _ h => h) (fun w' hSw => ?_) ?_; rotate_left; · (go_simp; try with_reducible rfl)); (try simp only [Act.put, U4]))
    refine Plan.F8 ?_;simp only [List.drop_succ_cons, List.drop_zero];clear hS;clear O9 R6 R7 R8 U1 X0 b5 yb;clear fb;go_wp2_with fail;refine (bR6 pc (list.length : Int) fin x y k9 L w.heap.size _ list[k].op list[k].d list[k].a list[k].k (k : Int) _ hG.drew (by omega) (by simp; omega) ⟨r1, r2⟩ (fun e => by have := r9 e; omega) ⟨r3, r4⟩ ⟨r5, r6⟩ ⟨r7, r8⟩ ⟨z0, by omega⟩ hb).mono ?_;rintro e w4 ⟨A9, c9, L9, f9, x9, y9, k9', rfl, hL9, Z1, t5, hy⟩;have hs4 := hy.size;have dp3 : w3.heap.size ≤ w3.drew.heap.size := Nat.le_refl _;have HL9 := hide (show (⟨pc, (list.length : Int), L9, f9, x9, y9, k9'⟩ : D9) = aB8 (aD5 pc list.length) 0 (list.take (k + 1)) by rw [HN.out, ← HL.out]; exact hL9);have hl9 : L9.length ≤ L.length + 5 := by have := bx4 ⟨pc, (list.length : Int), L, fin, x, y, k9⟩ ⟨list[k].op, list[k].d, list[k].a, list[k].k⟩ (k : Int); rw [← hL9] at this; exact this
    replace hK := (hK.drew).trans hy;replace K4 := K4.drew.grew hy;replace l5 := l5.drew.grew hy;clear hL9 hy hG e0 e1 e2 e3 HL;have yb := K4.lt;have O9 := K4.bx 0 _ rfl;have R6 := K4.bx 1 _ rfl;have R7 := K4.bx 2 _ rfl;have R8 := K4.bx 3 _ rfl;have U1 := K4.bx 4 _ rfl;have X0 := K4.bx 5 _ rfl;have b5 := K4.bx 6 _ rfl;have fb := K4.fz;go_wp2
    go_round
    case rel => exact ⟨k + 1, A9, c9, L9, f9, x9, y9, k9', by go_num, by omega, HL9, by omega, Z1, V7.hold t5, U9.hold hK, ⟨K4.bx.bs2 rfl (.int .i64 pc) (.int .i64 ((list.length : Int))) ((.slice A9 L9.length c9)) (.int .i64 f9) (.int .i64 x9) (.int .i64 y9) (.int .i64 (k9')), z8 K4.fz, K4.ne, by simp; omega⟩, Bk.hold l5, by simp; omega⟩
    case measure => (simp [intOf]; try omega)
   ·obtain rfl : k = list.length := (by omega);have HF := hide (show y6 pc list = ⟨pc, (list.length : Int), L, fin, x, y, k9⟩ by rw [HC.out, HL.out, List.take_length]);have q1 : decide ((list.length : Int) < (list.length : Int)) = false := decide_eq_false (by omega);have yb := K4.lt;have O9 := K4.bx 0 _ rfl;have R6 := K4.bx 1 _ rfl;have R7 := K4.bx 2 _ rfl;have R8 := K4.bx 3 _ rfl;have U1 := K4.bx 4 _ rfl;have X0 := K4.bx 5 _ rfl;have b5 := K4.bx 6 _ rfl;have fb := K4.fz;have I6 := l5.lt;have l6 := l5.bx 0 _ rfl;have y5 := l5.bx 1 _ rfl;have y7 := l5.bx 2 _ rfl;have y8 := l5.bx 3 _ rfl;have C8 := l5.bx 4 _ rfl;have D7 := l5.bx 5 _ rfl;have I7 := l5.bx 6 _ rfl;have J8 := l5.fz;go_wp2;refine bodyPost_ret (v := .agg #[.int .i64 pc, .int .i64 ((list.length : Int)), (.slice A L.length c), .int .i64 fin, .int .i64 x, .int .i64 y, .int .i64 k9]) (by simp [results, Tryz.results74, go_sem, l6, y5, y7, y8, C8, D7, I7]) rfl ?_;rw [HF.out];exact ⟨A, c, rfl, V7.hold hG, Ext.hold hE, ⟨hp, by show Fits (list.length : Int); unfold Fits; omega, hb.1, hb.2.1, hb.2.2.1, hb.2.2.2⟩, by show L.length ≤ 40; omega, by show (0 : Int) ≤ (list.length : Int); omega, by show (list.length : Int) ≤ 9; omega⟩
end Go.Proofs.YtmbclopkopfngaaGreat
