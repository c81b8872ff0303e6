/-
 NewP, SumC, SumM, NewS
-/
import Derived.Test.YtmbclopkopfngaaGreatJPolC
import Derived.Test.YtmbclopkopfngaaGreatJTabR
set_option maxHeartbeats 64000000
namespace Go.Proofs.YtmbclopkopfngaaGreat
open Go.RowKit
set_option linter.unusedVariables false
set_option linter.unusedSimpArgs false
set_option maxRecDepth 100000
theorem p9.one {α : Type} [Own α] {w : World} {b : Nat} {vs : List Value} {a : α} {F : List Nat} (h : Own.own w vs a F) (hc : ∀ j u, vs[j]? = some u → w.cell? ⟨b, j, none⟩ = some u) (hf : ∀ o, w.frozen? ⟨b, o, none⟩ = false) : p9 w (.slice (some ⟨b, 0, none⟩) 1 1) [a] (b :: F) :=
 ⟨_, 1, rfl, Nat.le_refl _, by decide, fun h => (by cases h), fun h => (by cases h), fun _ => ⟨b, 0, [F], rfl, by simp, rfl, hf, fun i x Fi hx hF => by
  cases i with
  | zero =>
   simp at hx hF;subst hx; subst hF;exact ⟨vs, h, fun j u hu => by rw [Nat.zero_mul, Nat.zero_add, Nat.zero_add]; exact hc j u hu⟩
  | succ i => simp at hx⟩⟩
def aD0 (k : Int) : G6 := ⟨[⟨1, [k]⟩]⟩
def au2 (k : Int) : O5 := ⟨1, k, ⟨[]⟩, ⟨[]⟩⟩
def upL {α : Type} (f : Int → α) : Nat → List α
 | 0 => []
 | n + 1 => upL f n ++ [f (n : Int)]
def aa9 : p4 := ⟨upL au2 4⟩
def aO4 : List G6 := upL aD0 4
theorem bu6 {α : Type} (f : Int → α) : ∀ n, (upL f n).length = n
 | 0 => rfl
 | n + 1 => by rw [upL, List.length_append, bu6]; rfl
theorem App.cc8 {α : Type} [Own α] {w wr : World} {e : TypeId} {v : Value} {l : List α} {Fs : List (List Nat)} {xs : List Value} {P : Nat → Prop} (h : App w wr e v l Fs xs) (hv : ∀ q, v.ownBlock = some q → P q) (hf : ∀ z, z ∈ Fs.flatten → P z) : ∃ F, p9 wr v l F ∧ Fr w wr F ∧ ∀ z, z ∈ F → P z := by
 rcases h.row.2 with ⟨rfl, hn⟩ | ⟨g, cap, cur, rfl, hb, hh, hnc, hcm, hcs, htake⟩
 ·have : l = [] := List.eq_nil_of_length_eq_zero hn
  subst this;exact ⟨[], p9.nil _, Fr.nil _ _, fun z hz => by simp at hz⟩
 ·by_cases hl : l = []
  ·subst hl
   exact ⟨[], ⟨_, cap, rfl, hnc, hcm, fun h => by simp at h, fun _ => rfl, fun h => absurd rfl h⟩, Fr.nil _ _, fun z hz => by simp at hz⟩
  ·have hgl : g < wr.heap.size := by
    rcases Nat.lt_or_ge g wr.heap.size with hlt | hge
    ·exact hlt
    ·rw [Array.getElem?_eq_none hge] at hh; cases hh
   refine ⟨g :: Fs.flatten, ⟨_, cap, rfl, hnc, hcm, fun h => by simp at h, fun h => absurd h hl, fun _ => ⟨g, 0, Fs, rfl, rfl, h.al6, fun o => by simp [World.frozen?, hh], fun i a Fi ha hf => ?_⟩⟩, ⟨List.nodup_cons.2 ⟨h.apart g rfl, h.fr.1⟩, fun b hm => ?_⟩, fun z hz => by
    rcases List.mem_cons.1 hz with rfl | hz
    ·exact hv z rfl
    ·exact hf z hz⟩
   ·obtain ⟨vs, h1, h2⟩ := h.els i a Fi ha hf
    refine ⟨vs, h1, fun j u hu => ?_⟩;have h3 := h2 j u hu;rw [← htake] at h3;rw [Nat.zero_add];rw [List.getElem?_take] at h3;split at h3
    ·simp [World.cell?, hh]
     simpa using h3
    ·simp at h3
   ·rcases List.mem_cons.1 hm with rfl | hm
    ·exact ⟨hb, hgl⟩
    ·exact h.fr.2 b hm
theorem ah4 (k : Int) (w : World)  (h0 : 0 ≤ k) (h1 : k ≤ 199) :
  Calls Tryz.prog 30 #[.int .i64 k] w fun e w' => ∃ r F, e = .returned (.agg #[r]) ∧ p9 w' r (aD0 k).j3 F ∧ Fr w w' F ∧ Ext w w' := by
 have qi : D2 k 0 199 = true := by simp [D2]; omega
 have hfk : Fits k := by unfold Fits; omega
 have HFK := hide hfk;have HFO := hide (show Fits 1 by unfold Fits; omega);clear hfk;go_enter Tryz.func30, Tryz.ntmps30;go_upto_region 1 with fail;obtain ⟨w0, J3, he0, hs0, hq0, j4, l9⟩ := new1 w [.slice none 0 0] 27;rw [J3];clear J3;have I6 : w.heap.size < w0.heap.size := (by omega);have l6 := j4 0 _ rfl;have J8 := l9;go_wp2_with (go_at_call 52; refine (N7 _ _ _ _).mono ?_; rintro e w' ⟨rfl, rfl⟩; rw [qi]);have xr : (w0.setCell ⟨w.heap.size, 0, none⟩ (.slice (some ⟨w0.heap.size + 1, 0, none⟩) 1 1)).cell? ⟨w.heap.size, 0, none⟩ = some (.slice (some ⟨w0.heap.size + 1, 0, none⟩) 1 1) := (show Bx (w0.setCell ⟨w.heap.size, 0, none⟩ (.slice (some ⟨w0.heap.size + 1, 0, none⟩) 1 1)) w.heap.size [.slice (some ⟨w0.heap.size + 1, 0, none⟩) 1 1] by have := Bx.put j4 (j := 0) (by simp) (.slice (some ⟨w0.heap.size + 1, 0, none⟩) 1 1); simpa using this) 0 _ rfl;have hez : Ext w (w0.setCell ⟨w.heap.size, 0, none⟩ (.slice (some ⟨w0.heap.size + 1, 0, none⟩) 1 1)) := Ext.hold he0;have hsz : w0.heap.size = (w0.setCell ⟨w.heap.size, 0, none⟩ (.slice (some ⟨w0.heap.size + 1, 0, none⟩) 1 1)).heap.size := (by simp);clear l6 I6 J8 j4 l9 he0;generalize (w0.setCell ⟨w.heap.size, 0, none⟩ (.slice (some ⟨w0.heap.size + 1, 0, none⟩) 1 1)) = wz at *;simp only [hsz] at *;have xr2 : ((wz.alloc (.cells #[.int .i64 k] 3)).alloc (.cells #[.int .i64 1, .slice (some ⟨wz.heap.size, 0, none⟩) 1 1] 87)).cell? ⟨w.heap.size, 0, none⟩ = some (.slice (some ⟨wz.heap.size + 1, 0, none⟩) 1 1) := ((Ext.auto : Ext wz ((wz.alloc (.cells #[.int .i64 k] 3)).alloc (.cells #[.int .i64 1, .slice (some ⟨wz.heap.size, 0, none⟩) 1 1] 87))).cell (by omega)).trans xr;refine bodyPost_ret (v := .agg #[.slice (some ⟨wz.heap.size + 1, 0, none⟩) 1 1]) (by simp [results, Tryz.results30, go_sem, xr2]) rfl ⟨_, [wz.heap.size + 1, wz.heap.size], rfl, ?_, ⟨by simp, fun z hz => ?_⟩, Ext.hold hez⟩
 ·refine p9.one (vs := [.int .i64 1, .slice (some ⟨wz.heap.size, 0, none⟩) 1 1]) ⟨_, rfl, HFO.out, p9.one (vs := [.int .i64 k]) ⟨⟨rfl, HFK.out⟩, rfl⟩ (fun j u hu => ?_) (fun oo => ?_)⟩ (fun j u hu => ?_) (fun oo => ?_)
  ·exact ((Bx.new wz #[.int .i64 k] 3).alloc (by simp) _ _) j u hu
  ·exact O6 (x7 wz #[.int .i64 k] 3 rfl) (by simp) _ oo
  ·exact (by have := Bx.new (wz.alloc (.cells #[.int .i64 k] 3)) #[.int .i64 1, .slice (some ⟨wz.heap.size, 0, none⟩) 1 1] 87; simp at this; exact this : Bx ((wz.alloc (.cells #[.int .i64 k] 3)).alloc (.cells #[.int .i64 1, .slice (some ⟨wz.heap.size, 0, none⟩) 1 1] 87)) (wz.heap.size + 1) [.int .i64 1, .slice (some ⟨wz.heap.size, 0, none⟩) 1 1]) j u hu
  ·exact (by simp : ∀ oo, (((wz.alloc (.cells #[.int .i64 k] 3)).alloc (.cells #[.int .i64 1, .slice (some ⟨wz.heap.size, 0, none⟩) 1 1] 87))).frozen? ⟨wz.heap.size + 1, oo, none⟩ = false) oo
 ·simp at hz
  exact ⟨by omega, by simp; omega⟩
def bu7 (l : List J2) : List J2 := if ap3 l = true then l else []
theorem bO8 {l : List J2} (h : ap3 l = false) : bu7 l = [] := by unfold bu7; rw [h]; rfl
theorem cc9 {l : List J2} (h : ap3 l = true) : bu7 l = l := by unfold bu7; rw [h]; rfl
def bk6 (n : Int) : G6 := if n = 0 then ⟨[]⟩ else ⟨[⟨n, []⟩]⟩
theorem bu8 {l : List J2} (h : ap3 l = true) : Q7.blk l ≤ 60 := by
 unfold ap3 at h;simp only [Bool.and_eq_true, decide_eq_true_eq] at h;have ha := ad7.1 h.2
 have hs : ∀ k, k ≤ l.length → aT8 l k ≤ 4 * k := by
  intro k
  induction k with
  | zero => intro _; rw [aT9]; omega
  | succ k ih =>
   intro hk;rw [aI1 l k (by omega)];have h1 := ih (by omega);have h2 := ha k (by omega);rw [ar1 l k (by omega)] at h2;have h3 : Q7.blk l[k] = l[k].atoms.length := bz8 l[k].atoms (fun _ => rfl);simp at h2;omega
 have := hs l.length (Nat.le_refl _);have h4 := bf6 l;omega
theorem bC2 {p : G6} (h : O4 p = true) : K7 p 200 = true := by
 rw [← bJ2 p] at h;unfold bJ1 at h;simp only [Bool.and_eq_true] at h;exact h.2.1.2
theorem bk7 {p : G6} (h : O4 p = true) : al0 200 p.j3 := ap7 h (bC2 h)
theorem aA3 {p : G6} (h : O4 p = true) : p.j3.length ≤ 12 := by
 unfold O4 at h;simp only [Bool.and_eq_true, decide_eq_true_eq] at h;exact h.1
theorem ax7 (n : Int) (w : World)  (h0 : 0 ≤ n) (h1 : n ≤ 65535) :
  Calls Tryz.prog 35 #[.int .i64 n] w fun e w' => ∃ r F, e = .returned (.agg #[r]) ∧ p9 w' r (bk6 n).j3 F ∧ Fr w w' F ∧ Ext w w' := by
 by_cases hz : n = 0
 ·subst hz;have qi : D2 0 1 65535 = false := (by decide);go_enter Tryz.func35, Tryz.ntmps35;go_upto_region 1 with fail;obtain ⟨w0, J3, he0, hs0, hq0, j4, l9⟩ := new1 w [.slice none 0 0] 27;rw [J3];clear J3;have I6 : w.heap.size < w0.heap.size := (by omega);have l6 := j4 0 _ rfl;have J8 := l9;go_wp2_with (go_at_call 52; refine (N7 _ _ _ _).mono ?_; rintro e w' ⟨rfl, rfl⟩; rw [qi]);refine bodyPost_ret (v := .agg #[.slice none 0 0]) (by simp [results, Tryz.results35, go_sem, l6]) rfl ⟨_, [], rfl, p9.nil _, Fr.nil _ _, Ext.hold he0⟩
 have qi : D2 n 1 65535 = true := by simp [D2]; omega
 have HP := hide (show (bk6 n).j3 = [⟨n, []⟩] by unfold bk6; rw [if_neg hz]);have HFK := hide (show Fits n by unfold Fits; omega);clear hz;go_enter Tryz.func35, Tryz.ntmps35;go_upto_region 1 with fail;obtain ⟨w0, J3, he0, hs0, hq0, j4, l9⟩ := new1 w [.slice none 0 0] 27;rw [J3];clear J3;have I6 : w.heap.size < w0.heap.size := (by omega);have l6 := j4 0 _ rfl;have J8 := l9;go_wp2_with (go_at_call 52; refine (N7 _ _ _ _).mono ?_; rintro e w' ⟨rfl, rfl⟩; rw [qi]);have xr : (w0.setCell ⟨w.heap.size, 0, none⟩ (.slice (some ⟨w0.heap.size, 0, none⟩) 1 1)).cell? ⟨w.heap.size, 0, none⟩ = some (.slice (some ⟨w0.heap.size, 0, none⟩) 1 1) := (show Bx (w0.setCell ⟨w.heap.size, 0, none⟩ (.slice (some ⟨w0.heap.size, 0, none⟩) 1 1)) w.heap.size [.slice (some ⟨w0.heap.size, 0, none⟩) 1 1] by have := Bx.put j4 (j := 0) (by simp) (.slice (some ⟨w0.heap.size, 0, none⟩) 1 1); simpa using this) 0 _ rfl;have hez : Ext w (w0.setCell ⟨w.heap.size, 0, none⟩ (.slice (some ⟨w0.heap.size, 0, none⟩) 1 1)) := Ext.hold he0;have hsz : w0.heap.size = (w0.setCell ⟨w.heap.size, 0, none⟩ (.slice (some ⟨w0.heap.size, 0, none⟩) 1 1)).heap.size := (by simp);clear l6 I6 J8 j4 l9 he0;generalize (w0.setCell ⟨w.heap.size, 0, none⟩ (.slice (some ⟨w0.heap.size, 0, none⟩) 1 1)) = wz at *;simp only [hsz] at *;have xr2 : (wz.alloc (.cells #[.int .i64 n, .slice none 0 0] 87)).cell? ⟨w.heap.size, 0, none⟩ = some (.slice (some ⟨wz.heap.size, 0, none⟩) 1 1) := ((Ext.auto : Ext wz (wz.alloc (.cells #[.int .i64 n, .slice none 0 0] 87))).cell (by omega)).trans xr;refine bodyPost_ret (v := .agg #[.slice (some ⟨wz.heap.size, 0, none⟩) 1 1]) (by simp [results, Tryz.results35, go_sem, xr2]) rfl ⟨_, [wz.heap.size], rfl, ?_, ⟨by simp, fun z hz => ?_⟩, Ext.hold hez⟩
 ·rw [HP.out]
  refine p9.one (vs := [.int .i64 n, .slice none 0 0]) ⟨_, rfl, HFK.out, p9.nil _⟩ (fun j u hu => ?_) (fun oo => ?_)
  ·exact (Bx.new wz #[.int .i64 n, .slice none 0 0] 87) j u hu
  ·exact (x7 wz #[.int .i64 n, .slice none 0 0] 87 rfl) oo
 ·simp at hz
  subst hz;exact ⟨by omega, by simp⟩
theorem br7 (l : List J2) (vl : Value) (w : World) (hl : Sl w (Old w) vl l)  :
  Calls Tryz.prog 99 #[vl] w fun e w' => ∃ r F, e = .returned (.tuple #[.agg #[r], .bool (ap3 l)]) ∧ p9 w' r (bu7 l) F ∧ Fr w w' F ∧ Ext w w' := by
 obtain ⟨Al, cl, rfl, hll, hml⟩ := hl.form;unfold maxLen at hml;by_cases h4 : l.length ≤ 12;rotate_left
 ·have HV := hide (show ap3 l = false by unfold ap3; rw [decide_eq_false h4]; rfl)
  have qa : decide ((12 : Int) < (l.length : Int)) = true := decide_eq_true (by omega);have qb : decide (12 < l.length) = true := decide_eq_true (by omega);clear h4;go_enter Tryz.func99, Tryz.ntmps99;go_upto_region 1 with fail;obtain ⟨w0, J3, he0, hs0, hq0, j4, l9⟩ := new1 w [.slice none 0 0] 27;rw [J3];clear J3;have I6 : w.heap.size < w0.heap.size := (by omega);have l6 := j4 0 _ rfl;have J8 := l9;go_wp2;refine bodyPost_ret (v := .tuple #[.agg #[.slice none 0 0], .bool false]) (by simp [results, Tryz.results99, go_sem, l6]) rfl ⟨_, [], by rw [HV.out], by rw [bO8 HV.out]; exact p9.nil _, Fr.nil _ _, Ext.hold he0⟩
 have HV0 := hide (show ap3 l = az9 l.length (fun j => decide ((gM l j).atoms.length ≤ 4)) by unfold ap3; rw [decide_eq_true h4]; rfl);have qa : decide ((12 : Int) < (l.length : Int)) = false := decide_eq_false (by omega);have qb : decide (12 < l.length) = false := decide_eq_false (by omega);go_enter Tryz.func99, Tryz.ntmps99;go_upto_region 1 with fail;obtain ⟨w0, J3, he0, hs0, hq0, j4, l9⟩ := new1 w [.slice none 0 0] 27;rw [J3];clear J3;go_wp2;clear qa qb;go_loopw [4] (fun i wr => ∃ k : Nat, k ≤ l.length ∧ i = .int .i64 k ∧ Ext w0 wr ∧ Hid (∀ j, j < k → decide ((gM l j).atoms.length ≤ 4) = true)) (fun i _ => l.length - (intOf i).toNat);case atStart => exact ⟨0, by omega, rfl, Ext.refl _, fun j hj => absurd hj (by omega)⟩
 case round =>
  obtain ⟨k, hk, rfl, hy, HT⟩ := hrel;obtain ⟨w1, hw1⟩ : ∃ w1 : World, w1 = wr := ⟨_, rfl⟩;subst hw1;have hx1 : Ext w0 w1 := Ext.trans (Ext.auto) hy;have hs1 := hx1.size;have he1 : Ext w w1 := he0.trans hx1;have j5 := hx1.bO j4;have D6 := hx1.uO l9;clear j4 l9;clear hy;by_cases hlt : k < l.length
  ·obtain ⟨b, off, va, rfl, hbo, hk0, hva, e0, e1⟩ := o4 (hl.ext he1) hlt;obtain ⟨Ava, cva, rfl, -, hmv⟩ := hva.form;unfold maxLen at hmv;have aj5 : b < w1.heap.size := hbo;have z0 : (0 : Int) ≤ (k : Int) := (by omega);have z1 : (k : Int) < (l.length : Int) := (by omega);have HG := hide (ar1 l k hlt);by_cases ha : l[k].atoms.length ≤ 4
   ·have q1 : decide ((4 : Int) < (l[k].atoms.length : Int)) = false := decide_eq_false (by omega);have q2 : decide (4 < l[k].atoms.length) = false := decide_eq_false (by omega);have HN := hide (ai8 HT.out (decide_eq_true (by rw [HG.out]; exact ha)));clear ha;go_wp2_with fail;go_roundw;case rel => exact ⟨k + 1, by omega, by go_num, hx1, HN.out⟩
    case measure => (simp [intOf]; try omega)
   ·have q1 : decide ((4 : Int) < (l[k].atoms.length : Int)) = true := decide_eq_true (by omega);have q2 : decide (4 < l[k].atoms.length) = true := decide_eq_true (by omega);have HV := hide (show ap3 l = false by rw [HV0.out]; exact am8 hlt (decide_eq_false (by rw [HG.out]; exact ha)));clear ha;have I6 : w.heap.size < w1.heap.size := (by omega);have l6 := j5 0 _ rfl;have J8 := D6;go_wp2;refine bodyPost_ret (v := .tuple #[.agg #[.slice none 0 0], .bool false]) (by simp [results, Tryz.results99, go_sem, l6]) rfl ⟨_, [], by rw [HV.out], by rw [bO8 HV.out]; exact p9.nil _, Fr.nil _ _, Ext.hold he1⟩
  ·obtain rfl : k = l.length := (by omega);have HV := hide (show ap3 l = true by rw [HV0.out]; exact Z6 HT.out);have hbb := bu8 HV.out;go_wp2_with fail;refine (o3 l _ _ (hl.ext he1) (by omega)).mono ?_;rintro e w2 ⟨r, F, rfl, hO, hF, hy⟩;have hx2 : Ext w1 w2 := Ext.trans (Ext.auto) hy;have hs2 := hx2.size;have he2 : Ext w w2 := he1.trans hx2;have H6 := hx2.bO j5;have K5 := hx2.uO D6;clear j5 D6;have hy_ := hy;clear hy;obtain ⟨B1, d1, rfl, -, -⟩ := hO.sl.form;have I6 : w.heap.size < w2.heap.size := (by omega);have l6 := H6 0 _ rfl;have J8 := K5;go_wp2;refine bodyPost_ret (v := .tuple #[.agg #[.slice B1 l.length d1], .bool true]) (by simp [results, Tryz.results99, go_sem, l6]) rfl ⟨_, F, by rw [HV.out], by rw [cc9 HV.out]; exact p9.sty hO hF, hF.mk1 (by omega) (by simp), Ext.hold he2⟩
theorem bC3 {x y : Int} (h : x ≤ y) (a r : List Int) : C2 (x :: a) (y :: r) = x :: C2 a (y :: r) := by
 rw [C2, C2, List.takeWhile_cons, List.dropWhile_cons, if_pos (by simpa using h), if_pos (by simpa using h)]; rfl
theorem aY9 {y : Int} : ∀ (a r : List Int), (∀ x, a[0]? = some x → y < x) → C2 a (y :: r) = y :: C2 a r
 | [], r, _ => rfl
 | x :: a, r, h => by
  have h1 := h x rfl;rw [C2, List.takeWhile_cons, List.dropWhile_cons, if_neg (by simp; omega), if_neg (by simp; omega)]; rfl
theorem bC4 (a : List Int) (b : List Int) (va vb : Value) (w : World) (ha : Sl w (Old w) va a) (hb : Sl w (Old w) vb b) (cA1 : a.length ≤ 4000) (cA3 : b.length ≤ 4000) :
  Calls Tryz.prog 100 #[va, vb] w fun e w' => (∃ r, e = .returned r ∧ Sl w' (Old w') r (C2 a b)) ∧ Ext w w' := by
 obtain ⟨Aa, ca, rfl, hla, hma⟩ := ha.form;obtain ⟨Ab, cb, rfl, hlb, hmb⟩ := hb.form;unfold maxLen at hma hmb;obtain ⟨i0a, hi_, hz0, hz1, hz2⟩ := info_parts cd0;have HIa := hide hi_;have an4 := hide hz0;have an5 := hide hz1;have an6 := hide hz2;clear hi_ hz0 hz1 hz2;go_enter Tryz.func100, Tryz.ntmps100;go_upto_region 2 with fail;have bp0 : App w (w.alloc (.cells #[] 3)) 3 (.slice (some ⟨w.heap.size, 0, none⟩) 0 0) ([] : List Int) [] [] := App.emptyAt w 3 _ rfl;generalize w.alloc (.cells #[] 3) = w1 at *;go_wp2;go_loopw [5, 6, 7] (fun v5 i6 i7 wz => ∃ (k I : Nat) (v : Value) (L : List Int) (Fs : List (List Nat)) (xs : List Value), v5 = v ∧ k ≤ b.length ∧ I ≤ a.length ∧ i6 = .int .i64 I ∧ i7 = .int .i64 k ∧ App w wz 3 v L Fs xs ∧ Hid (C2 a b = L ++ C2 (a.drop I) (b.drop k)) ∧ L.length = I + k) (fun _ _ i _ => b.length - (intOf i).toNat);case atStart => exact ⟨0, 0, _, [], [], [], rfl, by omega, by omega, rfl, rfl, bp0, hide rfl, rfl⟩
 case round =>
  clear bp0;obtain ⟨w2, hwr⟩ : ∃ w2 : World, w2 = wr := ⟨_, rfl⟩;subst hwr;obtain ⟨k, I, v, L, Fs, xs, rfl, hk, hI, rfl, rfl, hA, HP, hL⟩ := hrel;obtain ⟨F7, hO7, -⟩ := hA.done;obtain ⟨A7, c7, rfl, -, -⟩ := hO7.sl.form;clear hO7 F7;by_cases hlt : k < b.length
  ·obtain ⟨bb, off, rfl, hbo, hk0, e0⟩ := v8 hb hlt;have z0 : (0 : Int) ≤ (k : Int) := (by omega);have z1 : (k : Int) < (b.length : Int) := (by omega);have HD := hide (show b.drop k = b[k] :: b.drop (k + 1) from List.drop_eq_getElem_cons hlt);go_wp2;go_loopw [5, 6] (fun v5 i6 wz => ∃ (I : Nat) (v : Value) (L : List Int) (Fs : List (List Nat)) (xs : List Value), v5 = v ∧ I ≤ a.length ∧ i6 = .int .i64 I ∧ App w wz 3 v L Fs xs ∧ Hid (C2 a b = L ++ C2 (a.drop I) (b[k] :: b.drop (k + 1))) ∧ L.length = I + k) (fun _ i _ => a.length - (intOf i).toNat);case atStart => exact ⟨I, _, L, Fs, xs, rfl, hI, rfl, hA, hide (by rw [HP.out, HD.out]), hL⟩
   case round =>
    clear hA HP hL hI;obtain ⟨w3, hwr⟩ : ∃ w3 : World, w3 = wr := ⟨_, rfl⟩;subst hwr;obtain ⟨J, v, L, Fs, xs, rfl, hI, rfl, hA, HP, hL⟩ := hrel;obtain ⟨F7, hO7, -⟩ := hA.done;obtain ⟨A7, c7, rfl, -, -⟩ := hO7.sl.form;clear hO7 F7;have hx := hA.ext;have hs3 := hx.size;have aT7 : bb < w3.heap.size := Nat.lt_of_lt_of_le hbo hx.size;have g0 := (hx.cell hbo).trans e0;by_cases hlI : J < a.length
    ·obtain ⟨ba, bc7, rfl, hba, hka, f0⟩ := v8 ha hlI;have cA9 : ba < w3.heap.size := Nat.lt_of_lt_of_le hba hx.size;replace f0 := (hx.cell hba).trans f0;have y0 : (0 : Int) ≤ (J : Int) := (by omega);have y1 : (J : Int) < (a.length : Int) := (by omega);have HE := hide (show a.drop J = a[J] :: a.drop (J + 1) from List.drop_eq_getElem_cons hlI);have qI : decide (J < a.length) = true := decide_eq_true hlI;by_cases hc : a[J] ≤ b[k]
     ·have q2 : decide (a[J] ≤ b[k]) = true := decide_eq_true hc;have HN := hide (show C2 a b = (L ++ [a[J]]) ++ C2 (a.drop (J + 1)) (b[k] :: b.drop (k + 1)) by rw [HP.out, HE.out, bC3 hc, List.append_assoc]; rfl);clear hc;go_upto_region 6 with fail;have hS : ∀ w', Ext w3 w' → ∀ bb oo, bb < w3.heap.size → w'.cell? ⟨bb, oo, none⟩ = w3.cell? ⟨bb, oo, none⟩ := fun w' hx bb oo hb => hx.cell hb;refine l8 (fun w' => Ext w3 w') 13 (.float 0 (.float 1 (.float 2 (.float 3 (.float 4 (.float 5 (.float 6 (.float 7 (.float 8 (.float 9 (.float 10 (.float 11 (.float 12 (.tail 13)))))))))))))) (by kernel_rfl) (by kernel_rfl) (Ext.refl _).drew ?_;iterate 5 ((refine Plan.j6 (v := ?_) rfl (by rfl) (fun _ _ _ h => h) (fun w' hSw => ?_) ?_; rotate_left; · (go_simp; try with_reducible rfl)); (try simp only [Act.put, U4]))
      iterate 8 ((first | (refine ak5 rfl (by rfl) (fun _ _ _ h => h) ?_) | (refine Plan.j6 (v := ?_) rfl (by rfl) (fun _ _ _ h => h) (fun w' hSw => ?_) ?_; rotate_left; · (go_simp; try with_reducible rfl))); (try simp only [Act.put, U4]))
      refine Plan.F8 ?_;simp only [List.drop_succ_cons, List.drop_zero];clear hS;have hd4 : Ext w3 w3.drew := (Ext.refl _).drew;replace hA := hA.call hd4;replace g0 := (hd4.cell aT7).trans g0;replace aT7 : bb < w3.drew.heap.size := aT7;replace f0 := (hd4.cell cA9).trans f0;replace cA9 : ba < w3.drew.heap.size := cA9;clear hd4 hx hs3;generalize w3.drew = w4 at *
      go_upto_region 8 with (
        at_builtin; refine G8 (α := Int) (w0 := w) (wr := w4) rfl _ _ 85 rfl i0a _ 8 Tryz.underlying85 HIa.out an4.out an5.out an6.out rfl (by decide) hA rfl a[J] #[.int .i64 a[J]] 3 [] _ rfl Ext.auto ⟨⟨rfl, hka⟩, rfl⟩ (Fr.nil _ _) (by repeat (first | (exact fun _ h => absurd h (List.not_mem_nil)) | (refine List.forall_mem_cons.2 ⟨rfl, ?_⟩))) (by unfold maxLen; omega) (by omega) ?_
        intro v' wq9 xs' C7 Y7 Z1)
      go_wp2;go_roundw;case rel => exact ⟨J + 1, _, _, _, _, rfl, by omega, by go_num, C7, HN, by simp; omega⟩
      case measure => simp [intOf]; omega
     ·have q2 : decide (a[J] ≤ b[k]) = false := decide_eq_false hc;go_upto_region 6 with fail;have hS : ∀ w', Ext w3 w' → ∀ bb oo, bb < w3.heap.size → w'.cell? ⟨bb, oo, none⟩ = w3.cell? ⟨bb, oo, none⟩ := fun w' hx bb oo hb => hx.cell hb;refine l8 (fun w' => Ext w3 w') 13 (.float 0 (.float 1 (.float 2 (.float 3 (.float 4 (.float 5 (.float 6 (.float 7 (.float 8 (.float 9 (.float 10 (.float 11 (.float 12 (.tail 13)))))))))))))) (by kernel_rfl) (by kernel_rfl) (Ext.refl _).drew ?_;iterate 5 ((refine Plan.j6 (v := ?_) rfl (by rfl) (fun _ _ _ h => h) (fun w' hSw => ?_) ?_; rotate_left; · (go_simp; try with_reducible rfl)); (try simp only [Act.put, U4]))
      iterate 8 ((first | (refine ak5 rfl (by rfl) (fun _ _ _ h => h) ?_) | (refine Plan.j6 (v := ?_) rfl (by rfl) (fun _ _ _ h => h) (fun w' hSw => ?_) ?_; rotate_left; · (go_simp; try with_reducible rfl))); (try simp only [Act.put, U4]))
      refine Plan.F8 ?_;simp only [List.drop_succ_cons, List.drop_zero];clear hS;have hd4 : Ext w3 w3.drew := (Ext.refl _).drew;replace hA := hA.call hd4;replace g0 := (hd4.cell aT7).trans g0;replace aT7 : bb < w3.drew.heap.size := aT7;clear f0 hd4 hx hs3;generalize w3.drew = w4 at *;have HN := hide (show C2 a b = (L ++ [b[k]]) ++ C2 (a.drop J) (b.drop (k + 1)) by rw [HP.out, aY9 _ _ (fun x hx => by obtain ⟨_, rfl⟩ := List.getElem?_eq_some_iff.1 (show a[J]? = some x by simpa using hx); omega), List.append_assoc]; rfl)
      go_upto_region 5 with (
        at_builtin; refine G8 (α := Int) (w0 := w) (wr := w4) rfl _ _ 85 rfl i0a _ 8 Tryz.underlying85 HIa.out an4.out an5.out an6.out rfl (by decide) hA rfl b[k] #[.int .i64 b[k]] 3 [] _ rfl Ext.auto ⟨⟨rfl, hk0⟩, rfl⟩ (Fr.nil _ _) (by repeat (first | (exact fun _ h => absurd h (List.not_mem_nil)) | (refine List.forall_mem_cons.2 ⟨rfl, ?_⟩))) (by unfold maxLen; omega) (by omega) ?_
        intro v' wq9 xs' C7 Y7 Z1)
      go_wp2;go_roundw;case rel => exact ⟨k + 1, J, _, _, _, _, rfl, by omega, hI, rfl, by go_num, C7, HN, by simp; omega⟩
      case measure => simp [intOf]; omega
    ·have qI : decide (J < a.length) = false := decide_eq_false hlI;go_upto_region 6 with fail;have hS : ∀ w', Ext w3 w' → ∀ bb oo, bb < w3.heap.size → w'.cell? ⟨bb, oo, none⟩ = w3.cell? ⟨bb, oo, none⟩ := fun w' hx bb oo hb => hx.cell hb;refine l8 (fun w' => Ext w3 w') 13 (.float 0 (.float 1 (.float 2 (.float 3 (.float 4 (.float 5 (.float 6 (.float 7 (.float 8 (.float 9 (.float 10 (.float 11 (.float 12 (.tail 13)))))))))))))) (by kernel_rfl) (by kernel_rfl) (Ext.refl _).drew ?_;iterate 5 ((refine Plan.j6 (v := ?_) rfl (by rfl) (fun _ _ _ h => h) (fun w' hSw => ?_) ?_; rotate_left; · (go_simp; try with_reducible rfl)); (try simp only [Act.put, U4]))
     iterate 8 ((first | (refine ak5 rfl (by rfl) (fun _ _ _ h => h) ?_) | (refine Plan.j6 (v := ?_) rfl (by rfl) (fun _ _ _ h => h) (fun w' hSw => ?_) ?_; rotate_left; · (go_simp; try with_reducible rfl))); (try simp only [Act.put, U4]))
     refine Plan.F8 ?_;simp only [List.drop_succ_cons, List.drop_zero];clear hS;have hd4 : Ext w3 w3.drew := (Ext.refl _).drew;replace hA := hA.call hd4;replace g0 := (hd4.cell aT7).trans g0;replace aT7 : bb < w3.drew.heap.size := aT7;clear hd4 hx hs3;generalize w3.drew = w4 at *;have HN := hide (show C2 a b = (L ++ [b[k]]) ++ C2 (a.drop J) (b.drop (k + 1)) by rw [HP.out, aY9 _ _ (fun x hx => by rw [List.drop_eq_nil_of_le (by omega)] at hx; simp at hx), List.append_assoc]; rfl)
     go_upto_region 5 with (
       at_builtin; refine G8 (α := Int) (w0 := w) (wr := w4) rfl _ _ 85 rfl i0a _ 8 Tryz.underlying85 HIa.out an4.out an5.out an6.out rfl (by decide) hA rfl b[k] #[.int .i64 b[k]] 3 [] _ rfl Ext.auto ⟨⟨rfl, hk0⟩, rfl⟩ (Fr.nil _ _) (by repeat (first | (exact fun _ h => absurd h (List.not_mem_nil)) | (refine List.forall_mem_cons.2 ⟨rfl, ?_⟩))) (by unfold maxLen; omega) (by omega) ?_
       intro v' wq9 xs' C7 Y7 Z1)
     go_wp2;go_roundw;case rel => exact ⟨k + 1, J, _, _, _, _, rfl, by omega, hI, rfl, by go_num, C7, HN, by simp; omega⟩
     case measure => simp [intOf]; omega
  ·obtain rfl : k = b.length := (by omega);rw [List.drop_length] at HP;have HP2 := hide (show C2 a b = L ++ a.drop I by rw [HP.out]; rfl);clear HP;have z0 : (0 : Int) ≤ (I : Int) := (by omega);have z1 : (I : Int) ≤ (a.length : Int) := (by omega);by_cases h0 : I < a.length
   ·obtain ⟨ba, bc7, rfl, hba, hka, f0⟩ := v8 ha h0;have hne : ¬ I = ca := (by omega);have hne2 : ¬ (I : Int) = (ca : Int) := (by omega)
    have HSL : Sl w2 (Old w2) (.slice (some ⟨ba, bc7 + I, none⟩) (a.length - I) (ca - I)) (a.drop I) := by
     have := (ha.ext hA.ext).drop h0
     simpa [a9.sz] using this
    go_wp2_with (at_builtin; go_must (refine O3 (α := Int) (w0 := w) rfl _ _ 85 rfl i0a _ 8 Tryz.underlying85 HIa.out an4.out an5.out an6.out rfl hA rfl _ (a.drop I) (Old w2) rfl HSL (by unfold maxLen; simp; omega) (by simp; omega) ?_); intro v9 w9 Fs9 xs9 C7);obtain ⟨F9, hO9, hF9⟩ := C7.done;go_ret;exact ⟨⟨_, rfl, by rw [HP2.out]; exact hO9.old hF9⟩, C7.ext⟩
   ·obtain rfl : I = a.length := (by omega);rw [List.drop_length] at HP2;have HN : ∀ (A3 : Option Addr) (c3 : Nat), (A3 = none → c3 = 0) → c3 ≤ maxLen → Sl w2 (Old w2) (.slice A3 0 c3) ([] : List Int) := fun A3 c3 h1 h2 => ⟨A3, c3, rfl, Nat.zero_le _, h2, h1, fun h => absurd rfl h⟩
    have HA0 : Aa = none → ca = 0 := by
     obtain ⟨A', c', q1, -, -, q2, -⟩ := ha;injection q1 with q1 _ q3;subst q1 q3;exact q2
    by_cases hc : a.length = ca
    ·have HC := hide hc;cases Aa with
     | none =>
      have hc0 := HA0 rfl;subst hc0;have hl0 : a.length = 0 := (by omega);go_wp2_with (at_builtin; go_must (refine O3 (α := Int) (w0 := w) rfl _ _ 85 rfl i0a _ 8 Tryz.underlying85 HIa.out an4.out an5.out an6.out rfl hA rfl _ (([] : List Int)) (Old w2) rfl (HN _ _ (fun _ => rfl) (by simp [maxLen])) (by unfold maxLen; simp; omega) (by simp; omega) ?_); intro v9 w9 Fs9 xs9 C7);obtain ⟨F9, hO9, hF9⟩ := C7.done;go_ret;exact ⟨⟨_, rfl, by rw [HP2.out]; exact hO9.old hF9⟩, C7.ext⟩
     | some ad =>
      go_wp2_with (at_builtin; go_must (refine O3 (α := Int) (w0 := w) rfl _ _ 85 rfl i0a _ 8 Tryz.underlying85 HIa.out an4.out an5.out an6.out rfl hA rfl _ (([] : List Int)) (Old w2) rfl (HN _ _ (by simp) (by simp [maxLen])) (by unfold maxLen; simp; omega) (by simp; omega) ?_); intro v9 w9 Fs9 xs9 C7);obtain ⟨F9, hO9, hF9⟩ := C7.done;go_ret;exact ⟨⟨_, rfl, by rw [HP2.out]; exact hO9.old hF9⟩, C7.ext⟩
    ·cases Aa with
     | none => exact absurd (HA0 rfl) (by omega)
     | some ad =>
      have hne2 : ¬ (a.length : Int) = (ca : Int) := (by omega);go_wp2_with (at_builtin; go_must (refine O3 (α := Int) (w0 := w) rfl _ _ 85 rfl i0a _ 8 Tryz.underlying85 HIa.out an4.out an5.out an6.out rfl hA rfl _ (([] : List Int)) (Old w2) rfl (HN _ _ (by simp) (by unfold maxLen; omega)) (by unfold maxLen; simp; omega) (by simp; omega) ?_); intro v9 w9 Fs9 xs9 C7);obtain ⟨F9, hO9, hF9⟩ := C7.done;go_ret;exact ⟨⟨_, rfl, by rw [HP2.out]; exact hO9.old hF9⟩, C7.ext⟩
theorem aF2  (w : World)   :
  Calls Tryz.prog 11 #[] w fun e w' => ∃ r1 r2 F1 F2, e = .returned (.tuple #[.agg #[r1], r2]) ∧ p9 w' r1 aa9.atoms F1 ∧ p9 w' r2 aO4 F2 ∧ Fr w w' (F1 ++ F2) ∧ Ext w w' := by
 obtain ⟨i0a, hi_, hz0, hz1, hz2⟩ := info_parts aM7;have HIa := hide hi_;have an4 := hide hz0;have an5 := hide hz1;have an6 := hide hz2;clear hi_ hz0 hz1 hz2;obtain ⟨i0b, hi_, hz0, hz1, hz2⟩ := info_parts aM8;have HIb := hide hi_;have bT9 := hide hz0;have bU0 := hide hz1;have bU1 := hide hz2;clear hi_ hz0 hz1 hz2;go_enter Tryz.func11, Tryz.ntmps11;go_upto_region 1 with fail;obtain ⟨w0, J3, he0, hs0, hq0, j4, l9⟩ := new1 w [.slice none 0 0] 44;rw [J3];clear J3;go_upto_region 2 with fail;obtain ⟨w1, J3, hx1, hs1, -, Z8, ac6⟩ := new1 w0 [.slice none 0 0] 44;rw [J3];clear J3;have he1 := he0.trans hx1;have j5 := hx1.bO j4;have D6 := hx1.uO l9;clear j4 l9;go_upto_region 3 with fail;have cN4 : App w (w1.alloc (.cells #[] 27)) 27 (.slice (some ⟨w1.heap.size, 0, none⟩) 0 0) ([] : List G6) [] [] := (App.emptyAt w1 27 _ rfl).down he1;have he2 : Ext w (w1.alloc (.cells #[] 27)) := Ext.hold he1;have hx2 : Ext w1 (w1.alloc (.cells #[] 27)) := Ext.auto;have hs2 : w1.heap.size + 1 ≤ ((w1.alloc (.cells #[] 27))).heap.size := (by simp);have H6 := Bx.hold (w' := (w1.alloc (.cells #[] 27))) j5;have K5 := z8 (w' := (w1.alloc (.cells #[] 27))) D6;have X7 := Bx.hold (w' := (w1.alloc (.cells #[] 27))) Z8;have aa4 := z8 (w' := (w1.alloc (.cells #[] 27))) ac6;generalize (w1.alloc (.cells #[] 27)) = w2 at *;clear j5 D6 Z8 ac6;go_wp2;go_loopw [3, 4] (fun u i wz => ∃ (k : Nat) (v : Value) (Fs : List (List Nat)) (xs : List Value) (A8 : Option Addr) (n8 c8 : Nat) (Gs : List (List Nat)) (ys : List Value), k ≤ 4 ∧ i = .int .i64 k ∧ App w wz 66 v (upL au2 k) Fs xs ∧ Fs.flatten = [] ∧ (∀ q, v.ownBlock = some q → w1.heap.size ≤ q) ∧ u = .slice A8 n8 c8 ∧ App w wz 27 u (upL aD0 k) Gs ys ∧ (∀ q, u.ownBlock = some q → w1.heap.size ≤ q) ∧ (∀ z, z ∈ Gs.flatten → w1.heap.size ≤ z) ∧ ag7 v u ∧ (∀ q, v.ownBlock = some q → q ∉ Gs.flatten) ∧ Ext w wz ∧ w1.heap.size ≤ wz.heap.size ∧ Bx wz (w0.heap.size) [v] ∧ (∀ oo, wz.frozen? ⟨w0.heap.size, oo, none⟩ = false) ∧ Bx wz (w.heap.size) [.slice none 0 0] ∧ (∀ oo, wz.frozen? ⟨w.heap.size, oo, none⟩ = false)) (fun _ i _ => 4 - (intOf i).toNat);case atStart => exact ⟨0, .slice none 0 0, [], [], _, _, _, [], [], by omega, rfl, (App.nil w 66).call he2, rfl, fun q hq => by simp [Value.ownBlock] at hq, rfl, cN4, fun q hq => by simp [Value.ownBlock] at hq; omega, fun z hz => by simp at hz, fun q hq => by simp [Value.ownBlock] at hq, fun q hq => by simp [Value.ownBlock] at hq, he2, by omega, X7, aa4, H6, K5⟩
 case round =>
  obtain ⟨w3, hwr⟩ : ∃ w3 : World, w3 = wr := ⟨_, rfl⟩;subst hwr;clear cN4 X7 aa4 H6 K5;obtain ⟨k, v, Fs, xs, A8, n8, c8, Gs, ys, hk, rfl, hA, hfl, hvo, rfl, hB, huo, hgo, hap, hag, J1, hs3, X3, P4, o9, G9⟩ := hrel;by_cases hlt : k < 4
  ·obtain ⟨Lk, hLk⟩ : ∃ Lk, Lk = upL au2 k := ⟨_, rfl⟩;rw [← hLk] at hA;obtain ⟨Mk, hMk⟩ : ∃ Mk, Mk = upL aD0 k := ⟨_, rfl⟩;rw [← hMk] at hB;have cz6 : Lk.length ≤ 4 := by rw [hLk, bu6]; omega
   have du4 : Mk.length ≤ 4 := by rw [hMk, bu6]; omega
   have HLk := hide hLk;have HMk := hide hMk;clear hLk hMk;obtain ⟨F7, hO7, -⟩ := hA.done;obtain ⟨A7, c7, rfl, -, -⟩ := hO7.sl.form;clear hO7;have hrA := hA.row.lt;have hrB := hB.row.lt;have hrG : ∀ z, z ∈ Gs.flatten → z < w3.heap.size := fun z hz => (hB.fr.2 z hz).2;have z0 : (0 : Int) ≤ (k : Int) := (by omega);have z1 : (k : Int) ≤ 199 := (by omega);have z4 : (k : Int) < 4 := (by omega);have hok : (au2 (k : Int)).Ok := ⟨by show Fits 1; unfold Fits; omega, by show Fits (k : Int); unfold Fits; omega⟩;have HOK := hide hok;clear hok;have yx : w0.heap.size < w3.heap.size := (by omega);have d4 := X3 0 _ rfl
   go_upto_region 7 with (
     at_builtin
     clear d4 yx;have hBZ : Bx (w3.alloc (.cells #[.int .i64 1, .int .i64 (k : Int), .slice none 0 0, .slice none 0 0] 66)) (w0.heap.size) [.slice A7 Lk.length c7] := Bx.alloc X3 (by omega) _ _;have hFZ : ∀ oo, (w3.alloc (.cells #[.int .i64 1, .int .i64 (k : Int), .slice none 0 0, .slice none 0 0] 66)).frozen? ⟨w0.heap.size, oo, none⟩ = false := O6 P4 (by omega) _;refine G8 (w0 := w) (wr := w3) rfl _ _ 42 rfl i0a _ 64 Tryz.underlying42 HIa.out an4.out an5.out an6.out rfl (by decide) hA rfl (au2 (k : Int)) #[.int .i64 1, .int .i64 (k : Int), .slice none 0 0, .slice none 0 0] 66 ([]) _ rfl (Ext.refl _) ⟨_, _, [], [], rfl, HOK.out, p9.nil _, p9.nil _, rfl⟩ (Fr.nil _ _) (by repeat (first | (exact fun _ h => absurd h (List.not_mem_nil)) | (refine List.forall_mem_cons.2 ⟨rfl, ?_⟩))) (by unfold maxLen; omega) (by omega) ?_;intro v' wq9 xs' C7 Y7 Z1;have hz9 := Y7.size;have am1 : some (w0.heap.size) ≠ (Value.ownBlock (.slice A7 Lk.length c7)) := fun q => by have := hvo _ q.symm; omega
     have aG1 := (show Bx (w3.alloc (.cells #[.int .i64 1, .int .i64 (k : Int), .slice none 0 0, .slice none 0 0] 66)) (w0.heap.size) [.slice A7 Lk.length c7] from hBZ).grown Y7 (by simp; omega) am1;have bA3 := Q6 (show ∀ oo, (w3.alloc (.cells #[.int .i64 1, .int .i64 (k : Int), .slice none 0 0, .slice none 0 0] 66)).frozen? ⟨w0.heap.size, oo, none⟩ = false from hFZ) Y7 (by simp; omega) am1;have yz9 : w0.heap.size < wq9.heap.size := by simp at hz9; omega
     have xz0 := aG1 0 _ rfl
     have aQ3 : ∀ q, v'.ownBlock = some q → w1.heap.size ≤ q := fun q hq => by
      rcases Z1 with hb | hb
      ·exact hvo q (hb ▸ hq)
      ·rw [hb] at hq; injection hq with hq; simp at hq; omega
     obtain ⟨L9, hL9⟩ : ∃ L9, L9 = Lk ++ [au2 (k : Int)] := ⟨_, rfl⟩;rw [← hL9] at C7;have HL9 := hide hL9;clear hL9;obtain ⟨F9, hO9, -⟩ := C7.done;obtain ⟨A9, c9, rfl, -, -⟩ := hO9.sl.form;clear hO9
     have bb9 : w3.heap.size ≤ wq9.heap.size := by simp at hz9; omega)
   have cB4 : (Fs ++ [([] : List Nat)]).flatten = [] := (by simp [hfl]);have hA8 : App w (wq9.setCell ⟨w0.heap.size, 0, none⟩ (.slice A9 L9.length c9)) 66 (.slice A9 L9.length c9) L9 (Fs ++ [[]]) xs' := App.set C7 (p := ⟨w0.heap.size, 0, none⟩) (.slice A9 L9.length c9) (fun q => by have := aQ3 _ q; simp at this; omega) (by rw [cB4]; simp) (by simp; omega);have hB8 : App w (wq9.setCell ⟨w0.heap.size, 0, none⟩ (.slice A9 L9.length c9)) 27 (.slice A8 n8 c8) Mk Gs ys := App.set (App.am2 (hB.call (show Ext w3 (w3.alloc (.cells #[.int .i64 1, .int .i64 (k : Int), .slice none 0 0, .slice none 0 0] 66)) from Ext.auto)) Y7 (fun q hq e => hap q e hq) (fun z hz e => hag z e hz) (fun q hq => (hrA q hq).1)) (p := ⟨w0.heap.size, 0, none⟩) (.slice A9 L9.length c9) (fun q => by have := huo _ q; simp at this; omega) (fun hm => by have := hgo _ hm; simp at this; omega) (by simp; omega);have C9 : Bx (wq9.setCell ⟨w0.heap.size, 0, none⟩ (.slice A9 L9.length c9)) (w0.heap.size) [.slice A9 L9.length c9] := by have := Bx.put aG1 (j := 0) (by simp) (.slice A9 L9.length c9); simpa using this
   have T9 : ∀ oo, (wq9.setCell ⟨w0.heap.size, 0, none⟩ (.slice A9 L9.length c9)).frozen? ⟨w0.heap.size, oo, none⟩ = false := ac1 bA3 _ _;have l7 : Bx (wq9.setCell ⟨w0.heap.size, 0, none⟩ (.slice A9 L9.length c9)) (w.heap.size) [.slice none 0 0] := Bx.setCell ((show Bx (w3.alloc (.cells #[.int .i64 1, .int .i64 (k : Int), .slice none 0 0, .slice none 0 0] 66)) _ _ from Bx.alloc o9 (by omega) _ _).grown Y7 (by simp; omega) (fun q => by have := hvo _ q.symm; omega)) (by simp; omega) _;have D8 : ∀ oo, (wq9.setCell ⟨w0.heap.size, 0, none⟩ (.slice A9 L9.length c9)).frozen? ⟨w.heap.size, oo, none⟩ = false := ac1 (Q6 (show ∀ oo, (w3.alloc (.cells #[.int .i64 1, .int .i64 (k : Int), .slice none 0 0, .slice none 0 0] 66)).frozen? ⟨w.heap.size, oo, none⟩ = false from O6 G9 (by omega) _) Y7 (by simp; omega) (fun q => by have := hvo _ q.symm; omega)) _ _;have he4 : Ext w (wq9.setCell ⟨w0.heap.size, 0, none⟩ (.slice A9 L9.length c9)) := hA8.ext;have hs4 : w3.heap.size ≤ (wq9.setCell ⟨w0.heap.size, 0, none⟩ (.slice A9 L9.length c9)).heap.size := by simp; omega
   have bS3 : ag7 (.slice A9 L9.length c9) (.slice A8 n8 c8) := hap.left Z1 (fun q hq => by have := (hrB q hq).2; simp; omega)
   have dd0 : ∀ q, Value.ownBlock (.slice A9 L9.length c9) = some q → q ∉ Gs.flatten := fun q hq hz => by
    rcases Z1 with hb | hb
    ·exact hag q (hb ▸ hq) hz
    ·rw [hb] at hq; injection hq with hq; have := hrG _ hz; simp at hq; omega
   clear C7 Y7 Z1 aG1 bA3 hz9 bb9 am1 yz9 xz0 hBZ hFZ hA hB hap hag hrA hrB hrG hvo X3 P4 o9 G9;generalize (wq9.setCell ⟨w0.heap.size, 0, none⟩ (.slice A9 L9.length c9)) = w4 at *;have hrA := hA8.row.lt;have hrB := hB8.row.lt;have hrG : ∀ z, z ∈ Gs.flatten → z < w4.heap.size := fun z hz => (hB8.fr.2 z hz).2;go_wp2_with fail;refine (ah4 (k : Int) _ z0 z1).mono ?_;rintro e w5 ⟨r, F, rfl, hO, hF, hy⟩;obtain ⟨Pk, hPk⟩ : ∃ Pk, Pk = aD0 (k : Int) := ⟨_, rfl⟩;rw [← hPk] at hO;have HPk := hide hPk;clear hPk;obtain ⟨Ar, cr, rfl, -, -⟩ := hO.sl.form;have hx5 : Ext w4 w5 := Ext.trans (Ext.auto) hy;have hs5 := hx5.size;have he5 : Ext w w5 := he4.trans hx5;have I5 := hx5.bO C9;have U5 := hx5.uO T9;have p8 := hx5.bO l7;have I8 := hx5.uO D8;clear C9 T9 l7 D8
   go_upto_region 5 with (
     at_builtin
     refine G8 (w0 := w) (wr := w4) rfl _ _ 24 rfl i0b _ 24 Tryz.underlying24 HIb.out bT9.out bU0.out bU1.out rfl (by decide) hB8 rfl Pk #[.slice Ar Pk.j3.length cr] 27 F _ rfl hy ⟨_, rfl, True.intro, hO⟩ hF (by repeat (first | (exact fun _ h => absurd h (List.not_mem_nil)) | (refine List.forall_mem_cons.2 ⟨rfl, ?_⟩))) (by unfold maxLen; omega) (by omega) ?_;intro u' wq8 ys' hB9 hgB hbB;have hzB := hgB.size
     have du8 : w5.heap.size ≤ wq8.heap.size := by simp at hzB; omega)
   have cN6 : App w wq8 66 (.slice A9 L9.length c9) L9 (Fs ++ [[]]) xs' := App.am2 ((hA8.call hy).call (show Ext w5 (w5.alloc (.cells #[.slice Ar Pk.j3.length cr] 27)) from Ext.auto)) hgB (fun q hq e => bS3 q hq e) (by rw [cB4]; simp) (fun q hq => (hrB q hq).1);have bI6 : Bx wq8 (w0.heap.size) [.slice A9 L9.length c9] := (show Bx (w5.alloc (.cells #[.slice Ar Pk.j3.length cr] 27)) _ _ from Bx.alloc I5 (by omega) _ _).grown hgB (by simp; omega) (fun q => by have := huo _ q.symm; omega);have dd4 : ∀ oo, wq8.frozen? ⟨w0.heap.size, oo, none⟩ = false := Q6 (show ∀ oo, (w5.alloc (.cells #[.slice Ar Pk.j3.length cr] 27)).frozen? ⟨w0.heap.size, oo, none⟩ = false from O6 U5 (by omega) _) hgB (by simp; omega) (fun q => by have := huo _ q.symm; omega);have cB5 : Bx wq8 (w.heap.size) [.slice none 0 0] := (show Bx (w5.alloc (.cells #[.slice Ar Pk.j3.length cr] 27)) _ _ from Bx.alloc p8 (by omega) _ _).grown hgB (by simp; omega) (fun q => by have := huo _ q.symm; omega);have cB6 : ∀ oo, wq8.frozen? ⟨w.heap.size, oo, none⟩ = false := Q6 (show ∀ oo, (w5.alloc (.cells #[.slice Ar Pk.j3.length cr] 27)).frozen? ⟨w.heap.size, oo, none⟩ = false from O6 I8 (by omega) _) hgB (by simp; omega) (fun q => by have := huo _ q.symm; omega)
   have dd5 : ∀ q, u'.ownBlock = some q → w1.heap.size ≤ q := fun q hq => by
    rcases hbB with hb | hb
    ·exact huo q (hb ▸ hq)
    ·rw [hb] at hq; injection hq with hq; simp at hq; omega
   have dd6 : ∀ z, z ∈ (Gs ++ [F]).flatten → w1.heap.size ≤ z := fun z hz => by
    rw [List.flatten_append] at hz;rcases List.mem_append.1 hz with hz | hz
    ·exact hgo z hz
    ·have := (hF.2 z (by simpa using hz)).1; omega
   have dd7 : ag7 (.slice A9 L9.length c9) u' := (ag7.left bS3.symm hbB (fun q hq => by have := (hrA q hq).2; simp; omega)).symm
   have dd8 : ∀ q, Value.ownBlock (.slice A9 L9.length c9) = some q → q ∉ (Gs ++ [F]).flatten := fun q hq hz => by
    rw [List.flatten_append] at hz;rcases List.mem_append.1 hz with hz | hz
    ·exact dd0 q hq hz
    ·have h1 := (hF.2 q (by simpa using hz)).1; have h2 := (hrA q hq).2; omega
   obtain ⟨M9, hM9⟩ : ∃ M9, M9 = Mk ++ [Pk] := ⟨_, rfl⟩;rw [← hM9] at hB9;have HM9 := hide hM9;clear hM9;obtain ⟨F9, hO9, -⟩ := hB9.done;obtain ⟨A10, c10, rfl, -, -⟩ := hO9.sl.form;clear hO9;have HT1 := hide (show upL au2 (k + 1) = L9 by rw [HL9.out, HLk.out]; rfl);have HT2 := hide (show upL aD0 (k + 1) = M9 by rw [HM9.out, HMk.out, HPk.out]; rfl);go_wp2;go_roundw;case rel => exact ⟨k + 1, _, _, _, _, _, _, _, _, by omega, by go_num, by rw [HT1.out]; exact cN6, cB4, aQ3, rfl, by rw [HT2.out]; exact hB9, dd5, dd6, dd7, dd8, cN6.ext, by omega, bI6, dd4, cB5, cB6⟩
   case measure => simp [intOf]; omega
  ·obtain rfl : k = 4 := (by omega);obtain ⟨L4, hL4⟩ : ∃ L4, L4 = upL au2 4 := ⟨_, rfl⟩;rw [← hL4] at hA;obtain ⟨M4, hM4⟩ : ∃ M4, M4 = upL aD0 4 := ⟨_, rfl⟩;rw [← hM4] at hB;have HL4 := hide (show aa9.atoms = L4 from hL4.symm);have HM4 := hide (show aO4 = M4 from hM4.symm);clear hL4 hM4;obtain ⟨F1, hO1, hF1, hP1⟩ := App.cc8 (P := fun z => v.ownBlock = some z) hA (fun q hq => hq) (fun z hz => by rw [hfl] at hz; simp at hz);obtain ⟨F2, hO2, hF2, hP2⟩ := App.cc8 (P := fun z => (Value.slice A8 n8 c8).ownBlock = some z ∨ z ∈ Gs.flatten) hB (fun q hq => .inl hq) (fun z hz => .inr hz)
   have hFF : Fr w w3 (F1 ++ F2) := ⟨List.nodup_append.2 ⟨hF1.1, hF2.1, fun a ha b hb e => by
    subst e;rcases hP2 a hb with h | h
    ·exact hap a (hP1 a ha) h
    ·exact hag a (hP1 a ha) h⟩, fun z hz => by
    rcases List.mem_append.1 hz with hz | hz
    ·exact hF1.2 z hz
    ·exact hF2.2 z hz⟩
   have hlo1 : ∀ z, z ∈ F1 → w1.heap.size ≤ z := fun z hz => hvo z (hP1 z hz)
   have hlo2 : ∀ z, z ∈ F2 → w1.heap.size ≤ z := fun z hz => by
    rcases hP2 z hz with h | h
    ·exact huo z h
    ·exact hgo z h
   obtain ⟨B1, d1, rfl, -, -⟩ := hO1.sl.form;obtain ⟨B2, d2, hU, -, -⟩ := hO2.sl.form;rw [hU] at hO2;obtain ⟨rfl, rfl, rfl⟩ : A8 = B2 ∧ n8 = M4.length ∧ c8 = d2 := by injection hU with a b c; exact ⟨a, b, c⟩
   clear hU;clear hA hB hap hag hvo huo hP1 hP2;have yx : w0.heap.size < w3.heap.size := (by omega);have d4 := X3 0 _ rfl;have I6 : w.heap.size < w3.heap.size := (by omega);have l6 := o9 0 _ rfl;have J8 := G9;go_wp2
   refine bodyPost_ret (v := .tuple #[.agg #[.slice B1 L4.length d1], .slice A8 M4.length c8]) (by simp [results, Tryz.results11, go_sem, l6]) rfl ⟨_, _, F1, F2, rfl, by rw [HL4.out]; exact p9.stay hO1 (fun z hz => by
     have h1 := hlo1 z hz
     repeat (first | rw [heap_set _ _ _ _ (by show _ ≠ z; omega)] | rw [heap_set _ _ _ _ (by simp; omega)])), by rw [HM4.out]; exact p9.stay hO2 (fun z hz => by
     have h1 := hlo2 z hz
     repeat (first | rw [heap_set _ _ _ _ (by show _ ≠ z; omega)] | rw [heap_set _ _ _ _ (by simp; omega)])), hFF.mk1 (by omega) (by simp), Ext.hold J1⟩
end Go.Proofs.YtmbclopkopfngaaGreat
