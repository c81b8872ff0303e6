/-
 OptAll, DrawK
-/
import Derived.Test.YtmbclopkopfngaaGreatJConstS
import Derived.Test.YtmbclopkopfngaaGreatJBlkOkS
set_option maxHeartbeats 64000000
namespace Go.Proofs.YtmbclopkopfngaaGreat
open Go.RowKit
set_option linter.unusedVariables false
set_option linter.unusedSimpArgs false
set_option maxRecDepth 100000
theorem an9 {x : Int} (h0 : -100 ≤ x) (h1 : x ≤ 200000) : Fits x := T1 (by omega) (by omega)
def Bd (l : List Int) : Prop := ∀ a, a ∈ l → -1 ≤ a ∧ a ≤ 48
theorem bP3 {l : List Int} (h : Bd l) (x : Int) : -1 ≤ gI l x ∧ gI l x ≤ 48 := by
 unfold gI;cases hq : l[x.toNat]? with
 | none => simp
 | some a => simp; exact h a (List.mem_of_getElem? hq)
theorem bl6 {l : List Int} (h : Bd l) {a : Int} (h0 : -1 ≤ a ∧ a ≤ 48) : Bd (l ++ [a]) := by
 intro x hx;rcases List.mem_append.1 hx with hx | hx
 ·exact h x hx
 ·simp at hx; subst hx; exact h0
theorem cd6 {l : List Int} (h : Bd l) (i : Nat) {a : Int} (h0 : -1 ≤ a ∧ a ≤ 48) : Bd (l.set i a) := by
 intro x hx;rcases List.mem_or_eq_of_mem_set hx with hx | rfl
 ·exact h x hx
 ·exact h0
theorem cm2 {s : CpS} (o : J7) (hn : Bd s.names) (hl : Bd s.last) (hs : s.names.length ≤ 48) : Bd (ai5 s o).names ∧ Bd (ai5 s o).last := by
 have hk : -1 ≤ (s.names.length : Int) ∧ (s.names.length : Int) ≤ 48 := (by omega);unfold ai5;repeat' split
 ·exact ⟨bl6 hn (bP3 hl _), hl⟩
 ·exact ⟨bl6 hn hk, cd6 hl _ hk⟩
 ·exact ⟨bl6 hn hk, cd6 hl _ (bP3 hn _)⟩
 ·exact ⟨bl6 hn hk, hl⟩
theorem ct3 (ops : List J7) (hm : ops.length ≤ 48) : ∀ k, k ≤ ops.length → Bd (X6 ops k).names ∧ Bd (X6 ops k).last
 | 0, _ => ⟨by intro a ha; simp [X6] at ha, by intro a ha; simp [X6] at ha; subst ha; decide⟩
 | k + 1, hk => by
  rw [ai9 ops k (by omega)];have h := ct3 ops hm k (by omega);exact cm2 _ h.1 h.2 (by rw [ab3 ops k (by omega)]; omega)
theorem bC8 (ops : List J7) (ks : List Bool) : ∀ k, k ≤ 48 → Bd (Q5 ops ks k)
 | 0, _ => by intro a ha; simp [Q5] at ha
 | k + 1, hk => bl6 (bC8 ops ks k (by omega)) (by have := ah1 ops ks k; omega)
theorem cd7 {b : D9} (hb : b.Ok) {N : List Int} (hN : Bd N) (ops : List J7) : (am3 N b ops).Ok := by
 obtain ⟨h1, h2, h3, h4, h5, h6⟩ := hb;refine ⟨h1, h2, h3, ?_, ?_, h6⟩
 ·show Fits (if as1 b.fin then gI N b.x else b.x)
  split
  ·have := bP3 hN b.x; exact an9 (by omega) (by omega)
  ·exact h4
 ·show Fits (if ag8 b.fin then gI N b.y else b.y)
  split
  ·have := bP3 hN b.y; exact an9 (by omega) (by omega)
  ·exact h5
theorem aR4 : D0.Ok := ⟨an9 (by decide) (by decide), an9 (by decide) (by decide), an9 (by decide) (by decide), an9 (by decide) (by decide), an9 (by decide) (by decide), an9 (by decide) (by decide)⟩
theorem ah6 {b : D9} (hb : b.Ok) : (R4 b).Ok := by
 unfold R4;split
 ·rename_i h
  exact cd7 hb (ct3 b.ops (bs3 h) _ (Nat.le_refl _)).1 _
 ·exact aR4
theorem bP4 {b : D9} (hb : b.Ok) (h : Y8 b = true) (ks : List Bool) : (S1 b ks).Ok := cd7 hb (bC8 b.ops ks _ (bs3 h)) _
theorem aA6 {b : D9} (hb : b.Ok) : (U3 b).Ok := by
 unfold U3;split
 ·rename_i h; exact bP4 hb h _
 ·exact aR4
theorem bl7 {b : D9} (hb : b.Ok) : (Z4 b).Ok := by
 unfold Z4;split
 ·rename_i h; exact bP4 hb h _
 ·exact aR4
theorem cC6 {b : D9} (h : Y8 b = true) (x : Int) (hx : P1 (P5 b.ops b.ops.length) x = 1) : 0 ≤ T8 (P5 b.ops b.ops.length) x ∧ T8 (P5 b.ops b.ops.length) x ≤ 65535 := by
 unfold P1 at hx;unfold T8;cases hq : (P5 b.ops b.ops.length)[x.toNat]? with
 | none => rw [hq] at hx; simp at hx
 | some a =>
  rw [hq] at hx;simp at hx ⊢;obtain ⟨hj, rfl⟩ := List.getElem?_eq_some_iff.1 hq;have := az6 h b.ops.length (Nat.le_refl _) _ hj hx;simp [i3] at this;omega
theorem au3 {b : D9} (hb : b.Ok) : (U7 b).Ok := by
 unfold U7;split
 ·rename_i h
  obtain ⟨h1, h2, h3, h4, h5, h6⟩ := hb;have z : Fits (0 : Int) := an9 (by decide) (by decide);have o : Fits (1 : Int) := an9 (by decide) (by decide);have hl := aD7 h;have hp := cq0 h;unfold X9;repeat' split
  ·rename_i hc
   have := cC6 h b.x hc.2;exact ⟨h1, h2, o, z, h5, an9 (by show -100 ≤ T8 _ _; omega) (by show T8 _ _ ≤ 200000; omega)⟩
  ·exact ⟨h1, h2, o, z, z, h6⟩
  ·exact ⟨h1, h2, o, z, z, an9 (by show -100 ≤ b.pc + b.len; omega) (by show b.pc + b.len ≤ 200000; omega)⟩
  ·exact ⟨h1, h2, h3, h4, h5, h6⟩
 ·exact aR4
theorem aq3 (b : D9) : Q7.blk (S9 b) ≤ Q7.blk b :=
 Nat.le_trans (aX7 _) (Nat.le_trans (bz9 _) (Nat.le_trans (aX7 _) (Nat.le_trans (bt6 _) (aF1 _))))
theorem aC1 (b : D9) (vb1 : Value) (w : World) (hb1 : Sl w (Old w) vb1 b.ops) (hkb : b.Ok) :
  Calls Tryz.prog 27 #[.agg #[.int .i64 b.pc, .int .i64 b.len, vb1, .int .i64 b.fin, .int .i64 b.x, .int .i64 b.y, .int .i64 b.k]] w fun e w' => ∃ r1 F, e = .returned (.agg #[.int .i64 ((S9 b).pc), .int .i64 ((S9 b).len), r1, .int .i64 ((S9 b).fin), .int .i64 ((S9 b).x), .int .i64 ((S9 b).y), .int .i64 ((S9 b).k)]) ∧ p9 w' r1 (S9 b).ops F ∧ Fr w w' F ∧ Ext w w' ∧ Room w.heap.size (a9.sz J7) 73 w' r1 := by
 obtain ⟨N1, J0, rfl, ap1, ac0⟩ := hb1.form;go_enter Tryz.func27, Tryz.ntmps27;go_wp2_with fail;obtain ⟨w0, J3, he0, hs0, hq0, o7, J4, j4, l9⟩ := new2 w [.int .i64 b.pc, .int .i64 b.len, (.slice N1 b.ops.length J0), .int .i64 b.fin, .int .i64 b.x, .int .i64 b.y, .int .i64 b.k] 39 [.int .i64 0, .int .i64 0, .slice none 0 0, .int .i64 0, .int .i64 0, .int .i64 0, .int .i64 0] 39;(try rw [J3]);clear J3;refine (aB9 b _ _ (hb1.ext he0) hkb).mono ?_;rintro e w1 ⟨r1, F1, rfl, ho1, hf1, hy⟩;have hx1 : Ext w0 w1 := Ext.trans (Ext.auto) hy;have hs1 := hx1.size;have he1 : Ext w w1 := he0.trans hx1;have D5 := hx1.bO o7;have P9 := hx1.uO J4;have j5 := hx1.bO j4;have D6 := hx1.uO l9;clear o7 J4 j4 l9;clear hy;go_wp2_with fail;refine (aU2 (R4 b) r1 _ (ho1.old hf1) (ah6 hkb)).mono ?_;rintro e w2 ⟨r2, F2, rfl, ho2, hf2, hy⟩;have hx2 : Ext w1 w2 := Ext.trans (Ext.auto) hy;have hs2 := hx2.size;have he2 : Ext w w2 := he1.trans hx2;have K6 := hx2.bO D5;have Y5 := hx2.uO P9;have H6 := hx2.bO j5;have K5 := hx2.uO D6;clear D5 P9 j5 D6;clear hy;clear ho1 hf1;go_wp2_with fail;refine (bc6 (U7 (R4 b)) r2 _ (ho2.old hf2) (au3 (ah6 hkb))).mono ?_;rintro e w3 ⟨r3, F3, rfl, ho3, hf3, hy⟩;have hx3 : Ext w2 w3 := Ext.trans (Ext.auto) hy;have hs3 := hx3.size;have J1 : Ext w w3 := he2.trans hx3;have I4 := hx3.bO K6;have j9 := hx3.uO Y5;have o9 := hx3.bO H6;have G9 := hx3.uO K5;clear K6 Y5 H6 K5;clear hy;clear ho2 hf2;go_wp2_with fail;refine (bc8 (U3 (U7 (R4 b))) r3 _ (ho3.old hf3) (aA6 (au3 (ah6 hkb)))).mono ?_;rintro e w4 ⟨r4, F4, rfl, ho4, hf4, hy⟩;have hx4 : Ext w3 w4 := Ext.trans (Ext.auto) hy;have hs4 := hx4.size;have he4 : Ext w w4 := J1.trans hx4;have M5 := hx4.bO I4;have Y9 := hx4.uO j9;have l7 := hx4.bO o9;have D8 := hx4.uO G9;clear I4 j9 o9 G9;clear hy;clear ho3 hf3;go_wp2_with fail;refine (aw3 (Z4 (U3 (U7 (R4 b)))) r4 _ (ho4.old hf4) (bl7 (aA6 (au3 (ah6 hkb))))).mono ?_;rintro e w5 ⟨r5, F5, rfl, ho5, hf5, hy, hZ⟩;have hx5 : Ext w4 w5 := Ext.trans (Ext.auto) hy;have hs5 := hx5.size;have he5 : Ext w w5 := he4.trans hx5;have K9 := hx5.bO M5;have Z9 := hx5.uO Y9;have p8 := hx5.bO l7;have I8 := hx5.uO D8;clear M5 Y9 l7 D8;clear hy;clear ho4 hf4;have HA : (U3 (Z4 (U3 (U7 (R4 b))))) = S9 b := rfl;rw [HA] at ho5 ⊢;clear HA;obtain ⟨B1, d1, rfl, -, -⟩ := ho5.sl.form;have I6 : w.heap.size + 1 < w5.heap.size := (by omega);have l6 := p8 0 _ rfl;have y5 := p8 1 _ rfl;have y7 := p8 2 _ rfl;have y8 := p8 3 _ rfl;have C8 := p8 4 _ rfl;have D7 := p8 5 _ rfl;have I7 := p8 6 _ rfl
 have J8 := I8;go_wp2;refine bodyPost_ret (v := .agg #[.int .i64 ((S9 b).pc), .int .i64 ((S9 b).len), (.slice B1 (S9 b).ops.length d1), .int .i64 ((S9 b).fin), .int .i64 ((S9 b).x), .int .i64 ((S9 b).y), .int .i64 ((S9 b).k)]) (by simp [results, Tryz.results27, go_sem, l6, y5, y7, y8, C8, D7, I7]) rfl ⟨_, F5, rfl, ?_, ?_, ?_, Room.hold (hZ.down (by omega))⟩
 ·exact p9.stay ho5 (fun b hb => by
   have q := hf5.2 b hb; have q1 := q.1; have q2 := q.2; (try simp at q1 q2)
   repeat (first | rw [heap_set _ _ _ _ (by simp; omega)] | rw [Ext.heap (Ext.refl _) (by omega)]))
 ·exact hf5.mk1 (by omega) (by first | (simp; done) | (simp; omega))
 ·exact (Ext.hold he5)
theorem ak1 (b : D9) (vb1 : Value) (w : World) (hb1 : Sl w (Old w) vb1 b.ops) (hkb : b.Ok) :
  Calls Tryz.prog 27 #[.agg #[.int .i64 b.pc, .int .i64 b.len, vb1, .int .i64 b.fin, .int .i64 b.x, .int .i64 b.y, .int .i64 b.k]] w fun e w' => ∃ r1 F, e = .returned (.agg #[.int .i64 ((S9 b).pc), .int .i64 ((S9 b).len), r1, .int .i64 ((S9 b).fin), .int .i64 ((S9 b).x), .int .i64 ((S9 b).y), .int .i64 ((S9 b).k)]) ∧ p9 w' r1 (S9 b).ops F ∧ Fr w w' F ∧ Ext w w' :=
 (aC1 b vb1 w hb1 hkb).mono fun e w' ⟨r1, F, h1, h2, h3, h4, _⟩ => ⟨r1, F, h1, h2, h3, h4⟩
theorem aH2 {b : D9} (h0 : 0 ≤ b.len) (h9 : b.len ≤ 9) : 0 ≤ (R4 b).len ∧ (R4 b).len ≤ 9 := by
 unfold R4;split
 ·exact ⟨h0, h9⟩
 ·simp [D0]
theorem aZ5 {b : D9} (h0 : 0 ≤ b.len) (h9 : b.len ≤ 9) : 0 ≤ (U3 b).len ∧ (U3 b).len ≤ 9 := by
 unfold U3;split
 ·exact ⟨h0, h9⟩
 ·simp [D0]
theorem bD5 {b : D9} (h0 : 0 ≤ b.len) (h9 : b.len ≤ 9) : 0 ≤ (Z4 b).len ∧ (Z4 b).len ≤ 9 := by
 unfold Z4;split
 ·exact ⟨h0, h9⟩
 ·simp [D0]
theorem bv6 {b : D9} (h0 : 0 ≤ b.len) (h9 : b.len ≤ 9) : 0 ≤ (U7 b).len ∧ (U7 b).len ≤ 9 := by
 unfold U7;split
 ·unfold X9
  repeat' split
  all_goals exact ⟨h0, h9⟩
 ·simp [D0]
theorem az4 {b : D9} (h0 : 0 ≤ b.len) (h9 : b.len ≤ 9) : 0 ≤ (S9 b).len ∧ (S9 b).len ≤ 9 := by
 have h1 := aH2 h0 h9;have h2 := bv6 h1.1 h1.2;have h3 := aZ5 h2.1 h2.2;have h4 := bD5 h3.1 h3.2;exact aZ5 h4.1 h4.2
theorem aw0 {b : D9} (h : b.Ok) : (S9 b).Ok := aA6 (bl7 (aA6 (au3 (ah6 h))))
theorem bs4 (rb base P : Nat) (w : World) (h : U2 rb base P w) (hP : P ≤ 1099511600000)  :
  Calls Tryz.prog 50 #[.pointer (some ⟨rb, 0, none⟩)] w fun e w' => (∃ (b : D9) (A : Option Addr) (c : Nat), e = .returned (.agg #[.int .i64 b.pc, .int .i64 b.len, .slice A b.ops.length c, .int .i64 b.fin, .int .i64 b.x, .int .i64 b.y, .int .i64 b.k]) ∧ V7 73 w.heap.size w' (.slice A b.ops.length c) b.ops ∧ b.Ok ∧ b.ops.length ≤ 40 ∧ 0 ≤ b.len ∧ b.len ≤ 9) ∧ U2 rb base (P + 140) w' ∧ Turn [rb] w w' := by
 have hlt := h.lt;have hlt1 := hlt.1;have hlt2 := hlt.2;clear hlt;go_enter Tryz.func50, Tryz.ntmps50;go_upto_region 1 with fail;obtain ⟨w0, J3, he0, hs0, hq0, j4, l9⟩ := new1 w [.int .i64 0, .int .i64 0, .slice none 0 0, .int .i64 0, .int .i64 0, .int .i64 0, .int .i64 0] 39;rw [J3];clear J3;have hR0 : U2 rb base P w0 := h.ext he0;have hT0 : Turn [rb] w w0 := Turn.M8 he0 _;go_wp2_with fail;refine (bD4 rb base _ _ (U2.hold hR0) (by omega)).mono ?_;rintro e w1 ⟨⟨v, rfl, L, hG, hL1, hL8, -⟩, hR1, hy⟩;have hs1 := hy.size;try simp at hs1
 have hT1 : Turn [rb] w w1 := (Turn.hold hT0).trans hy;have j5 := hy.s9 j4;have D6 := hy.t3 l9;clear j4 l9;clear hy;obtain ⟨Al, cl, rfl, hcl, hcm⟩ := hG.form;have zw : IntKind.i64.wrap (64 - (L.length : Int)) = 64 - (L.length : Int) := by rw [IntKind.wrap_i64]; omega
 go_wp2_with fail;refine (N8 rb base _ _ (U2.hold hR1) (by omega) 50 (by omega) (by omega)).mono ?_;rintro e w2 ⟨⟨x, rfl, lx, qx⟩, hR2, hy⟩;have ux : x < 50 := (by omega);clear qx;have hs2 := hy.size;try simp at hs2
 have hT2 : Turn [rb] w w2 := (Turn.hold hT1).trans hy;have H6 := hy.s9 j5;have K5 := hy.t3 D6;clear j5 D6;replace hG := V7.turn (V7.ext hG Ext.auto) hy (fun q hq => by have := (hG.lt q hq).1; simp; omega);clear hy;go_wp2_with fail;refine (N8 rb base _ _ (U2.hold hR2) (by omega) 4 (by omega) (by omega)).mono ?_;rintro e w3 ⟨⟨iq, rfl, liq, qiq⟩, hR3, hy⟩;have uiq : iq < 4 := (by omega);clear qiq;have hBt := hy.bx (Bx.new w2 #[.int .i64 0, .int .i64 1, .int .i64 x, .int .i64 (64 - (L.length : Int))] 3) (by simp) (by simp; omega);have yt : w2.heap.size < w3.heap.size := by have := hy.size; simp at this; omega
 have hs3 := hy.size;try simp at hs3
 have hT3 : Turn [rb] w w3 := (Turn.hold hT2).trans hy;have o9 := hy.s9 H6;have G9 := hy.t3 K5;clear H6 K5;obtain ⟨Vq, rfl⟩ := Int.eq_ofNat_of_zero_le liq;have hVq : Vq < 4 := (by omega);have hBt : Bx w3 w2.heap.size (List.map (Value.int .i64) [0, 1, x, (64 - (L.length : Int))]) := hBt;have eq := hBt.at_ (v := Vq) hVq;have hb : ∀ zz ∈ ([0, 1, x, (64 - (L.length : Int))] : List Int), 0 ≤ zz ∧ zz < 65 := by intro zz hzz; simp at hzz; omega
 have hb2 := hb _ (List.getElem_mem (l := [0, 1, x, (64 - (L.length : Int))]) (n := Vq) hVq);clear hb hBt;generalize ([0, 1, x, (64 - (L.length : Int))] : List Int)[Vq] = q at *;have lq := hb2.1;have uq := hb2.2;clear hb2;have z0 : (0 : Int) ≤ (Vq : Int) := (by omega);have z1 : (Vq : Int) < 4 := (by omega);replace hG := V7.turn (V7.ext hG Ext.auto) hy (fun q hq => by have := (hG.lt q hq).1; simp; omega);clear hy;go_wp2_with fail;refine (aO5 q L _ _ (V7.sl (V7.ext hG Ext.auto)) (by unfold Fits; omega)).mono ?_;rintro e w4 ⟨A2, c2, rfl, hO, hy, hok, cI2, hl0, hl9⟩;have hs4 := hy.size;try simp at hs4
 have hR4 := (U2.hold hR3).ext hy;have hT4 : Turn [rb] w w4 := (Turn.hold hT3).call hy;have l7 := hy.s9 o9;have D8 := hy.t3 G9;clear o9 G9;replace hG := V7.ext (V7.ext hG Ext.auto) hy;clear hy;clear hG zw hcl hcm hL1 hL8;generalize y6 q L = b at *;go_upto_region 3 with fail;have Z2 := U2.hold (w' := (w4.alloc (.cells #[.int .i64 b.pc, .int .i64 b.len, .slice A2 b.ops.length c2, .int .i64 b.fin, .int .i64 b.x, .int .i64 b.y, .int .i64 b.k] 39))) hR4;have hT5 : Turn [rb] w (w4.alloc (.cells #[.int .i64 b.pc, .int .i64 b.len, .slice A2 b.ops.length c2, .int .i64 b.fin, .int .i64 b.x, .int .i64 b.y, .int .i64 b.k] 39)) := Turn.hold hT4;have hs5 : w4.heap.size + 1 ≤ ((w4.alloc (.cells #[.int .i64 b.pc, .int .i64 b.len, .slice A2 b.ops.length c2, .int .i64 b.fin, .int .i64 b.x, .int .i64 b.y, .int .i64 b.k] 39))).heap.size := (by simp);have hx5 : Ext w4 (w4.alloc (.cells #[.int .i64 b.pc, .int .i64 b.len, .slice A2 b.ops.length c2, .int .i64 b.fin, .int .i64 b.x, .int .i64 b.y, .int .i64 b.k] 39)) := Ext.auto;have K9 : Bx (w4.alloc (.cells #[.int .i64 b.pc, .int .i64 b.len, .slice A2 b.ops.length c2, .int .i64 b.fin, .int .i64 b.x, .int .i64 b.y, .int .i64 b.k] 39)) w4.heap.size [.int .i64 b.pc, .int .i64 b.len, .slice A2 b.ops.length c2, .int .i64 b.fin, .int .i64 b.x, .int .i64 b.y, .int .i64 b.k] := Bx.new w4 #[.int .i64 b.pc, .int .i64 b.len, .slice A2 b.ops.length c2, .int .i64 b.fin, .int .i64 b.x, .int .i64 b.y, .int .i64 b.k] 39;have Z9 : ∀ oo, (w4.alloc (.cells #[.int .i64 b.pc, .int .i64 b.len, .slice A2 b.ops.length c2, .int .i64 b.fin, .int .i64 b.x, .int .i64 b.y, .int .i64 b.k] 39)).frozen? ⟨w4.heap.size, oo, none⟩ = false := x7 w4 #[.int .i64 b.pc, .int .i64 b.len, .slice A2 b.ops.length c2, .int .i64 b.fin, .int .i64 b.x, .int .i64 b.y, .int .i64 b.k] 39 rfl;have p8 := Bx.hold (w' := (w4.alloc (.cells #[.int .i64 b.pc, .int .i64 b.len, .slice A2 b.ops.length c2, .int .i64 b.fin, .int .i64 b.x, .int .i64 b.y, .int .i64 b.k] 39))) l7;have I8 := z8 (w' := (w4.alloc (.cells #[.int .i64 b.pc, .int .i64 b.len, .slice A2 b.ops.length c2, .int .i64 b.fin, .int .i64 b.x, .int .i64 b.y, .int .i64 b.k] 39))) D8;clear l7 D8;replace hO := V7.ext hO hx5;generalize (w4.alloc (.cells #[.int .i64 b.pc, .int .i64 b.len, .slice A2 b.ops.length c2, .int .i64 b.fin, .int .i64 b.x, .int .i64 b.y, .int .i64 b.k] 39)) = w5 at *;go_wp2_with fail;refine (N8 rb base _ _ (U2.hold Z2) (by omega) 5 (by omega) (by omega)).mono ?_;rintro e w6 ⟨⟨v, rfl, lv, qv⟩, hR6, hy⟩;have uv : v < 5 := (by omega);clear qv;have hs6 := hy.size;try simp at hs6
 have hT6 : Turn [rb] w w6 := (Turn.hold hT5).trans hy;have I9 := hy.s9 p8;have P8 := hy.t3 I8;have X5 := hy.s9 K9;have B8 := hy.t3 Z9;clear p8 I8 K9 Z9;replace hO := V7.turn (V7.ext hO Ext.auto) hy (fun q hq => by have := (hO.lt q hq).1; simp; omega);clear hy;have hc : v = 0 ∨ v = 1 ∨ (2 ≤ v ∧ v < 5) := (by omega);clear lv uv;rcases hc with rfl | rfl | ⟨lv, uv⟩
 ·have yb : w4.heap.size < w6.heap.size := (by omega);have O9 := X5 0 _ rfl;have R6 := X5 1 _ rfl;have R7 := X5 2 _ rfl;have R8 := X5 3 _ rfl;have U1 := X5 4 _ rfl;have X0 := X5 5 _ rfl;have b5 := X5 6 _ rfl;have fb := B8;go_wp2_with fail;refine (aC1 b _ _ (V7.sl (V7.ext hO Ext.auto)) hok).mono ?_;rintro e w7 ⟨r1, F1, rfl, ho1, hf1, hy, hZ⟩;clear O9 R6 R7 R8 U1 X0 b5 yb;clear fb;have hs7 := hy.size;try simp at hs7
  have hR7 := (U2.hold hR6).ext hy;have hT7 : Turn [rb] w w7 := (Turn.hold hT6).call hy;have P6 := hy.s9 I9;have z6 := hy.t3 P8;have y3 := hy.s9 X5;have ah0 := hy.t3 B8;clear I9 P8 X5 B8;replace hO := V7.ext (V7.ext hO Ext.auto) hy;clear hy;have hG1 := V7.bP5 ho1 hZ;obtain ⟨A3, c3, rfl, -, -⟩ := hG1.form;have hlb := aq3 b;rw [C3, C3] at hlb;have I6 : w.heap.size < w7.heap.size := (by omega);have l6 := P6 0 _ rfl;have y5 := P6 1 _ rfl;have y7 := P6 2 _ rfl;have y8 := P6 3 _ rfl;have C8 := P6 4 _ rfl;have D7 := P6 5 _ rfl;have I7 := P6 6 _ rfl;have J8 := z6;go_wp2;refine bodyPost_ret (v := .agg #[.int .i64 ((S9 b).pc), .int .i64 ((S9 b).len), .slice A3 (S9 b).ops.length c3, .int .i64 ((S9 b).fin), .int .i64 ((S9 b).x), .int .i64 ((S9 b).y), .int .i64 ((S9 b).k)]) (by simp [results, Tryz.results50, go_sem, l6, y5, y7, y8, C8, D7, I7]) rfl ⟨⟨(S9 b), _, _, rfl, (V7.set (V7.set (V7.set (V7.set (V7.set (V7.set (V7.set hG1 (fun q hq => by have := (hG1.lt q hq).1; show q ≠ w.heap.size; omega) _) (fun q hq => by have := (hG1.lt q hq).1; show q ≠ w.heap.size; omega) _) (fun q hq => by have := (hG1.lt q hq).1; show q ≠ w.heap.size; omega) _) (fun q hq => by have := (hG1.lt q hq).1; show q ≠ w.heap.size; omega) _) (fun q hq => by have := (hG1.lt q hq).1; show q ≠ w.heap.size; omega) _) (fun q hq => by have := (hG1.lt q hq).1; show q ≠ w.heap.size; omega) _) (fun q hq => by have := (hG1.lt q hq).1; show q ≠ w.heap.size; omega) _).down (by omega), aw0 hok, by omega, (az4 hl0 hl9).1, (az4 hl0 hl9).2⟩, (U2.hold hR7).up (by omega), Turn.hold hT7⟩
 ·have yb : w4.heap.size < w6.heap.size := (by omega);have O9 := X5 0 _ rfl;have R6 := X5 1 _ rfl;have R7 := X5 2 _ rfl;have R8 := X5 3 _ rfl;have U1 := X5 4 _ rfl;have X0 := X5 5 _ rfl;have b5 := X5 6 _ rfl;have fb := B8;go_wp2_with fail;refine (ax8 b _ _ (V7.sl (V7.ext hO Ext.auto)) hok).mono ?_;rintro e w7 ⟨r1, F1, rfl, ho1, hf1, hy, hZ⟩;clear O9 R6 R7 R8 U1 X0 b5 yb;clear fb;have hs7 := hy.size;try simp at hs7
  have hR7 := (U2.hold hR6).ext hy;have hT7 : Turn [rb] w w7 := (Turn.hold hT6).call hy;have P6 := hy.s9 I9;have z6 := hy.t3 P8;have y3 := hy.s9 X5;have ah0 := hy.t3 B8;clear I9 P8 X5 B8;replace hO := V7.ext (V7.ext hO Ext.auto) hy;clear hy;have hG1 := V7.bP5 ho1 hZ;obtain ⟨A3, c3, rfl, -, -⟩ := hG1.form;have hlb := aF1 b;rw [C3, C3] at hlb;have I6 : w.heap.size < w7.heap.size := (by omega);have l6 := P6 0 _ rfl;have y5 := P6 1 _ rfl;have y7 := P6 2 _ rfl;have y8 := P6 3 _ rfl;have C8 := P6 4 _ rfl;have D7 := P6 5 _ rfl;have I7 := P6 6 _ rfl;have J8 := z6;go_wp2;refine bodyPost_ret (v := .agg #[.int .i64 ((R4 b).pc), .int .i64 ((R4 b).len), .slice A3 (R4 b).ops.length c3, .int .i64 ((R4 b).fin), .int .i64 ((R4 b).x), .int .i64 ((R4 b).y), .int .i64 ((R4 b).k)]) (by simp [results, Tryz.results50, go_sem, l6, y5, y7, y8, C8, D7, I7]) rfl ⟨⟨(R4 b), _, _, rfl, (V7.set (V7.set (V7.set (V7.set (V7.set (V7.set (V7.set hG1 (fun q hq => by have := (hG1.lt q hq).1; show q ≠ w.heap.size; omega) _) (fun q hq => by have := (hG1.lt q hq).1; show q ≠ w.heap.size; omega) _) (fun q hq => by have := (hG1.lt q hq).1; show q ≠ w.heap.size; omega) _) (fun q hq => by have := (hG1.lt q hq).1; show q ≠ w.heap.size; omega) _) (fun q hq => by have := (hG1.lt q hq).1; show q ≠ w.heap.size; omega) _) (fun q hq => by have := (hG1.lt q hq).1; show q ≠ w.heap.size; omega) _) (fun q hq => by have := (hG1.lt q hq).1; show q ≠ w.heap.size; omega) _).down (by omega), ah6 hok, by omega, (aH2 hl0 hl9).1, (aH2 hl0 hl9).2⟩, (U2.hold hR7).up (by omega), Turn.hold hT7⟩
 ·have q0 : (v == 0) = false := by simp; omega
  have q1 : (v == 1) = false := by simp; omega
  have yb : w4.heap.size < w6.heap.size := (by omega);have O9 := X5 0 _ rfl;have R6 := X5 1 _ rfl;have R7 := X5 2 _ rfl;have R8 := X5 3 _ rfl;have U1 := X5 4 _ rfl;have X0 := X5 5 _ rfl;have b5 := X5 6 _ rfl;have fb := B8;have I6 : w.heap.size < w6.heap.size := (by omega);have l6 := I9 0 _ rfl;have y5 := I9 1 _ rfl;have y7 := I9 2 _ rfl;have y8 := I9 3 _ rfl;have C8 := I9 4 _ rfl;have D7 := I9 5 _ rfl;have I7 := I9 6 _ rfl;have J8 := P8;go_wp2;refine bodyPost_ret (v := .agg #[.int .i64 b.pc, .int .i64 b.len, .slice A2 b.ops.length c2, .int .i64 b.fin, .int .i64 b.x, .int .i64 b.y, .int .i64 b.k]) (by simp [results, Tryz.results50, go_sem, l6, y5, y7, y8, C8, D7, I7]) rfl ⟨⟨b, _, _, rfl, (V7.set (V7.set (V7.set (V7.set (V7.set (V7.set (V7.set hO (fun q hq => by have := (hO.lt q hq).1; show q ≠ w.heap.size; omega) _) (fun q hq => by have := (hO.lt q hq).1; show q ≠ w.heap.size; omega) _) (fun q hq => by have := (hO.lt q hq).1; show q ≠ w.heap.size; omega) _) (fun q hq => by have := (hO.lt q hq).1; show q ≠ w.heap.size; omega) _) (fun q hq => by have := (hO.lt q hq).1; show q ≠ w.heap.size; omega) _) (fun q hq => by have := (hO.lt q hq).1; show q ≠ w.heap.size; omega) _) (fun q hq => by have := (hO.lt q hq).1; show q ≠ w.heap.size; omega) _).down (by omega), hok, cI2, hl0, hl9⟩, (U2.hold hR6).up (by omega), Turn.hold hT6⟩
end Go.Proofs.YtmbclopkopfngaaGreat
