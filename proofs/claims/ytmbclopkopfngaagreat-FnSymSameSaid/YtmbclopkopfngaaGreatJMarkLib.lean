/-
 MarkLib, WordPure, MachPure, BlkPure, LowPure, SymPure, PolPure, TabPure, SumPure
-/
import Derived.Test.YtmbclopkopfngaaGreatJLib
namespace Go.Proofs.YtmbclopkopfngaaGreat
open Go.RowKit
set_option linter.unusedVariables false
set_option linter.unusedSimpArgs false
structure Chg (F : List Nat) (w w' : World) : Prop where
 os : w'.os = w.os
 tape : w'.tape = w.tape
 output : w'.output = w.output
 size : w.heap.size ≤ w'.heap.size
 block : ∀ k, k < w.heap.size → k ∉ F → w'.heap[k]? = w.heap[k]?
 frozen : ∀ b o, b < w.heap.size → w'.frozen? ⟨b, o, none⟩ = w.frozen? ⟨b, o, none⟩
namespace Chg
variable {F G : List Nat} {a b c w : World}
theorem M8 (h : Ext a b) (F : List Nat) : Chg F a b :=
 ⟨h.below.os, h.below.tape, h.below.output, h.size, fun k hk _ => h.heap hk, fun _ _ hb => h.frozen hb⟩
theorem refl (F : List Nat) (a : World) : Chg F a a := M8 (Ext.refl a) F
theorem trans (h : Chg F a b) (k : Chg F b c) : Chg F a c := by
 exact ⟨k.os.trans h.os, k.tape.trans h.tape, k.output.trans h.output, Nat.le_trans h.size k.size, fun x hx hn => (k.block x (Nat.lt_of_lt_of_le hx h.size) hn).trans (h.block x hx hn),
  fun x o hx => (k.frozen x o (Nat.lt_of_lt_of_le hx h.size)).trans (h.frozen x o hx)⟩
theorem mono (h : Chg F a b) (hs : ∀ x, x ∈ F → x ∈ G) : Chg G a b :=
 ⟨h.os, h.tape, h.output, h.size, fun k hk hn => h.block k hk (fun hm => hn (hs k hm)), h.frozen⟩
theorem setCell (h : Chg F a b) {p : Addr} (hp : p.block ∈ F) (u : Value) : Chg F a (b.setCell p u) :=
 ⟨h.os, h.tape, h.output, by simpa [World.setCell] using h.size, fun k hk hn => (heap_set b p u k (fun e => hn (e ▸ hp))).trans (h.block k hk hn),
  fun x o hx => by rw [World.frozen?_setCell]; exact h.frozen x o hx⟩
theorem ext (h : Ext w a) (k : Chg F a b) (hF : ∀ x, x ∈ F → w.heap.size ≤ x) : Ext w b :=
 ⟨⟨k.os.trans h.below.os, k.tape.trans h.below.tape, k.output.trans h.below.output, Nat.le_trans h.size k.size, fun x hx => (k.block x (Nat.lt_of_lt_of_le hx h.size) (fun hm => by have := hF x hm; omega)).trans (h.heap hx)⟩⟩
theorem heap (h : Chg F a b) {x : Nat} (hx : x < a.heap.size) (hn : x ∉ F) : b.heap[x]? = a.heap[x]? := h.block x hx hn
theorem cell (h : Chg F a b) {x o : Nat} (hx : x < a.heap.size) (hn : x ∉ F) : b.cell? ⟨x, o, none⟩ = a.cell? ⟨x, o, none⟩ := World.cell?_of_block (w := a) (h.block x hx hn)
end Chg
structure Loc (b lo hi : Nat) (G : List Nat) (w w' : World) : Prop where
 os : w'.os = w.os
 tape : w'.tape = w.tape
 output : w'.output = w.output
 size : w.heap.size ≤ w'.heap.size
 block : ∀ k, k < w.heap.size → k ≠ b → k ∉ G → w'.heap[k]? = w.heap[k]?
 cells : ∀ o, (o < lo ∨ hi ≤ o) → w'.cell? ⟨b, o, none⟩ = w.cell? ⟨b, o, none⟩
 frozen : ∀ x o, x < w.heap.size → w'.frozen? ⟨x, o, none⟩ = w.frozen? ⟨x, o, none⟩
namespace Loc
variable {b lo hi : Nat} {F G : List Nat} {w w1 w2 : World}
theorem refl (b lo hi : Nat) (G : List Nat) (w : World) : Loc b lo hi G w w := ⟨rfl, rfl, rfl, Nat.le_refl _, fun _ _ _ _ => rfl, fun _ _ => rfl, fun _ _ _ => rfl⟩
theorem set (h : Loc b lo hi G w w1) {o : Nat} (h1 : lo ≤ o) (h2 : o < hi) (u : Value) : Loc b lo hi G w (w1.setCell ⟨b, o, none⟩ u) := by
 refine ⟨h.os, h.tape, h.output, by simpa [World.setCell] using h.size, fun k hk hn hG => (heap_set w1 _ u k (fun e => hn e.symm)).trans (h.block k hk hn hG), fun j hj => ?_, fun x j hx => by rw [World.frozen?_setCell]; exact h.frozen x j hx⟩;rw [World.cell?_setCell_other]
 ·exact h.cells j hj
 ·intro e; injection e with _ e2; omega
theorem mono (h : Loc b lo hi G w w1) (hs : ∀ x, x ∈ G → x ∈ F) : Loc b lo hi F w w1 :=
 ⟨h.os, h.tape, h.output, h.size, fun k hk hn hG => h.block k hk hn (fun hm => hG (hs k hm)), h.cells, h.frozen⟩
end Loc
class Mk (α : Type) where
 put : α → Int → α
 ct : α → Nat
instance : Mk Int := ⟨fun _ k => k, fun _ => 1⟩
instance : Mk Bool := ⟨fun _ k => k % 3 == 0, fun _ => 1⟩
instance : Mk UInt8 := ⟨fun _ k => UInt8.ofNat k.toNat, fun _ => 1⟩
section
variable {α : Type} [Mk α]
def cN1 : List α → Int → Nat → List α
 | [], _, _ => []
 | a :: l, _, 0 => a :: l
 | a :: l, k, i + 1 => Mk.put a k :: cN1 l (k + Mk.ct a) i
def cN2 : List α → Nat → Nat
 | [], _ => 0
 | _, 0 => 0
 | a :: l, i + 1 => Mk.ct a + cN2 l i
instance : Mk (List α) := ⟨fun l k => cN1 l k l.length, fun l => cN2 l l.length⟩
end
structure cc6 (b o : Nat) (r : List Value) (w : World) : Prop where
 mk_ ::
 at_ : ∀ m u, r[m]? = some u → w.cell? ⟨b, o + m, none⟩ = some u
namespace cc6
variable {b o : Nat} {r r' : List Value} {w w' : World}
theorem set {x : Nat} {m : Nat} {u : Value} (h : cc6 b o r w) (hm : m < r.length) (e : r' = r.set m u) (hx : x = o + m) : cc6 b o r' (w.setCell ⟨b, x, none⟩ u) := by
 subst e;subst hx;refine ⟨fun m' x hx => ?_⟩;by_cases hq : m' = m
 ·subst hq
  rw [List.getElem?_set_self hm] at hx;injection hx with hx;subst hx;exact World.cell?_setCell_same _ _ _ (h.at_ m' _ (List.getElem?_eq_getElem hm))
 ·rw [List.getElem?_set_ne (fun e => hq e.symm)] at hx
  rw [World.cell?_setCell_other]
  ·exact h.at_ m' x hx
  ·intro e; injection e with _ e2; omega
theorem out {off i : Nat} (h : cc6 b (off + i) r w) : ∀ m u, r[m]? = some u → w.cell? ⟨b, off + (i + m), none⟩ = some u := fun m u hu => by rw [← Nat.add_assoc]; exact h.at_ m u hu
end cc6
set_option maxRecDepth 100000
def D2 (n lo hi : Int) : Bool := decide (lo ≤ n) && decide (n ≤ hi)
def i3 (n : Int) : Bool := decide (0 ≤ n) && decide (n < 65536)
theorem bO5 {n lo hi : Int} (h1 : lo ≤ n) (h2 : n ≤ hi) : D2 n lo hi = true := by simp [D2, h1, h2]
theorem bO6 {n lo hi : Int} (h1 : n < lo) : D2 n lo hi = false := by unfold D2; rw [decide_eq_false (by omega)]; rfl
theorem bB9 {n lo hi : Int} (h1 : hi < n) : D2 n lo hi = false := by unfold D2; rw [decide_eq_false (p := n ≤ hi) (by omega)]; simp
theorem as5 {n lo hi : Int} : D2 n lo hi = true ↔ lo ≤ n ∧ n ≤ hi := by simp [D2]
theorem O0 {n : Int} (h1 : 0 ≤ n) (h2 : n < 65536) : i3 n = true := by simp [i3, h1, h2]
theorem bT3 {n : Int} (h1 : n < 0) : i3 n = false := by unfold i3; rw [decide_eq_false (by omega)]; rfl
theorem bJ0 {n : Int} (h1 : 65536 ≤ n) : i3 n = false := by unfold i3; rw [decide_eq_false (p := n < 65536) (by omega)]; simp
theorem ax4 {n : Int} : i3 n = true ↔ 0 ≤ n ∧ n < 65536 := by simp [i3]
theorem U0 {a b : Bool} (h : a = b) : Ending.returned (.bool a) = .returned (.bool b) := by rw [h]
def aq9 (i : Q8) : Bool :=
 if i.op = 0 then (i.d == 0 && i.a == 0) && decide (i.k ≤ 3)
 else if i.op = 1 then i.a == 0
 else if i.op = 2 then i.k == 0
 else if 3 ≤ i.op ∧ i.op ≤ 7 then decide (i.k < 4)
 else if i.op = 8 then decide (i.k < 16)
 else if i.op = 13 then i.d == 0 && i.k == 0
 else if i.op = 14 ∨ i.op = 15 then i.a == 0 && i.k == 0
 else true
def Q2 (i : Q8) : Bool := D2 i.op 0 15 && D2 i.d 0 3 && D2 i.a 0 3 && D2 i.k 0 255 && aq9 i
structure cI1 (i : Q8) : Prop where
 o0 : 0 ≤ i.op
 o1 : i.op ≤ 15
 d0 : 0 ≤ i.d
 d1 : i.d ≤ 3
 a0 : 0 ≤ i.a
 a1 : i.a ≤ 3
 k0 : 0 ≤ i.k
 k1 : i.k ≤ 255
 stop : i.op = 0 → i.k ≤ 3
 dm6 : 3 ≤ i.op → i.op ≤ 7 → i.k < 4
 shift : i.op = 8 → i.k < 16
theorem cX0 {i : Q8} (h : Q2 i = true) : cI1 i := by
 unfold Q2 at h;simp only [Bool.and_eq_true, as5] at h;obtain ⟨⟨⟨⟨h1, h2⟩, h3⟩, h4⟩, h5⟩ := h;refine ⟨h1.1, h1.2, h2.1, h2.2, h3.1, h3.2, h4.1, h4.2, fun e => ?_, fun e1 e2 => ?_, fun e => ?_⟩
 ·unfold aq9 at h5; rw [if_pos e] at h5; simp at h5; exact h5.2
 ·unfold aq9 at h5; rw [if_neg (by omega), if_neg (by omega), if_neg (by omega), if_pos ⟨e1, e2⟩] at h5; simpa using h5
 ·unfold aq9 at h5; rw [if_neg (by omega), if_neg (by omega), if_neg (by omega), if_neg (by omega), if_pos e] at h5; simpa using h5
def ad2 (op a b : Int) : Int :=
 if i3 a && i3 b then
  if op = 1 then (a + b) % 65536 else if op = 2 then (a - b) % 65536 else if op = 3 then a * b % 65536
  else if op = 4 then ((a.toNat &&& b.toNat : Nat) : Int) else if op = 5 then ((a.toNat ^^^ b.toNat : Nat) : Int) else 0
 else 0
theorem aM0 (op a b : Int) : i3 (ad2 op a b) = true := by
 unfold ad2;split
 ·rename_i h
  simp [i3] at h;have ha : a.toNat < 2 ^ 16 := (by omega);have hb : b.toNat < 2 ^ 16 := (by omega);repeat' split
  all_goals refine O0 ?_ ?_
  all_goals first | omega | (have := Nat.and_lt_two_pow a.toNat hb; omega) | (have := Nat.xor_lt_two_pow ha hb; omega)
 ·exact O0 (by omega) (by omega)
def bb5 (op : Int) : Bool := op == 11 || op == 12 || op == 13
def aT6 (l : List Q8) (k : Nat) : Bool := match l[k]? with
 | some i => Q2 i && (i.op != 0) && (!bb5 i.op || decide (k + 1 = l.length))
 | none => false
def aD4 (l : List Q8) (k : Nat) : Prop := ∀ j, j < k → aT6 l j = true
def aj4 (pc : Int) (l : List Q8) : Bool := D2 (l.length : Int) 1 8 && D2 pc 0 (64 - (l.length : Int)) && (List.range l.length).all (aT6 l)
theorem aV0 {l : List Q8} {k : Nat} : (List.range k).all (aT6 l) = true ↔ aD4 l k := by
 rw [List.all_eq_true];exact ⟨fun h j hj => h j (List.mem_range.2 hj), fun h j hj => h j (List.mem_range.1 hj)⟩
theorem aD4.zero (l : List Q8) : aD4 l 0 := fun j hj => absurd hj (Nat.not_lt_zero j)
theorem aD4.next {l : List Q8} {k : Nat} (h : aD4 l k) (hk : aT6 l k = true) : aD4 l (k + 1) := fun j hj => by
 by_cases e : j = k
 ·rw [e]; exact hk
 ·exact h j (by omega)
theorem av7 {l : List Q8} {k : Nat} (hk : k < l.length) : aT6 l k = (Q2 l[k] && (l[k].op != 0) && (!bb5 l[k].op || decide (k + 1 = l.length))) := by
 unfold aT6; rw [List.getElem?_eq_getElem hk]
theorem bR4 {pc : Int} {l : List Q8} (h1 : D2 (l.length : Int) 1 8 = true) (h2 : D2 pc 0 (64 - (l.length : Int)) = true) (h : aD4 l l.length) : aj4 pc l = true := by
 unfold aj4; rw [h1, h2, aV0.2 h]; rfl
theorem bW3 {pc : Int} {l : List Q8} {k : Nat} (hk : k < l.length) (h : aT6 l k = false) : aj4 pc l = false := by
 rw [← Bool.not_eq_true];intro q;unfold aj4 at q;simp only [Bool.and_eq_true] at q;have := aV0.1 q.2 k hk;rw [h] at this;exact absurd this (by simp)
theorem bq4 {pc : Int} {l : List Q8} : aj4 pc l = true ↔ (1 ≤ l.length ∧ l.length ≤ 8) ∧ (0 ≤ pc ∧ pc ≤ 64 - (l.length : Int)) ∧ aD4 l l.length := by
 unfold aj4;simp only [Bool.and_eq_true, as5, aV0]
 constructor
 ·rintro ⟨⟨h1, h2⟩, h3⟩; exact ⟨⟨by omega, by omega⟩, h2, h3⟩
 ·rintro ⟨h1, h2, h3⟩; exact ⟨⟨⟨by omega, by omega⟩, h2⟩, h3⟩
def ac2 (k : Int) : J7 := ⟨1, 0, 0, k, 0⟩
def ak9 (k : Int) : J7 := ⟨2, 0, 0, k, 0⟩
def oDo (k x y : Int) : J7 := ⟨3, x, y, k, 0⟩
def ax3 (k x : Int) : J7 := ⟨8, x, 0, k, 0⟩
def Q9 (n : Int) (i : Q8) (at_ : Int) : List J7 :=
 if i.op = 1 then [ac2 i.k, ax3 i.d n]
 else if i.op = 2 then [ak9 i.a, ax3 i.d n]
 else if i.op = 8 then [ak9 i.a, ac2 (2 ^ i.k.toNat), oDo 3 n (n + 1), ax3 i.d (n + 2)]
 else if i.op = 9 then [ak9 i.a, ac2 i.k, oDo 1 n (n + 1), ⟨4, n + 2, 0, 0, at_⟩, ax3 i.d (n + 3)]
 else if i.op = 10 then [ak9 i.a, ac2 i.k, oDo 1 n (n + 1), ak9 i.d, ⟨5, n + 2, n + 3, 0, at_⟩]
 else if i.op = 14 then [ak9 i.d, ⟨7, n, 0, 0, at_⟩]
 else if i.op = 15 then [⟨6, 0, 0, 0, at_⟩, ax3 i.d n]
 else if i.op = 11 ∨ i.op = 12 then [ak9 i.d, ak9 i.a]
 else if i.op = 13 then [ak9 i.a]
 else [ak9 i.a, ak9 i.k, oDo (i.op - 2) n (n + 1), ax3 i.d (n + 2)]
def y4 (b : D9) (i : Q8) (at_ : Int) : D9 :=
 if i.op = 11 then { b with ops := b.ops ++ Q9 b.ops.length i at_, fin := 3, x := b.ops.length, y := b.ops.length + 1, k := i.k }
 else if i.op = 12 then { b with ops := b.ops ++ Q9 b.ops.length i at_, fin := 4, x := b.ops.length, y := b.ops.length + 1, k := i.k }
 else if i.op = 13 then { b with ops := b.ops ++ Q9 b.ops.length i at_, fin := 2, x := b.ops.length, k := 0 }
 else { b with ops := b.ops ++ Q9 b.ops.length i at_ }
def aB8 (b : D9) : Nat → List Q8 → D9
 | _, [] => b
 | n, i :: r => aB8 (y4 b i n) (n + 1) r
def aD5 (pc : Int) (n : Nat) : D9 := ⟨pc, n, [], 1, 0, 0, pc + n⟩
def aI2 : D9 := ⟨0, 0, [], 0, 0, 0, 0⟩
def y6 (pc : Int) (l : List Q8) : D9 := if aj4 pc l then aB8 (aD5 pc l.length) 0 l else aI2
theorem bx5 (b : D9) (i : Q8) (at_ : Int) : (y4 b i at_).ops = b.ops ++ Q9 b.ops.length i at_ := by
 unfold y4;split
 ·rfl
 split
 ·rfl
 split
 ·rfl
 ·rfl
theorem bj5 : ∀ (l : List Q8) (b : D9) (n : Nat) (i : Q8), aB8 b n (l ++ [i]) = y4 (aB8 b n l) i ((n + l.length : Nat) : Int)
 | [], b, n, i => by simp [aB8]
 | j :: r, b, n, i => by
  rw [List.cons_append, aB8, bj5 r, aB8, List.length_cons];congr 2
  omega
theorem bH5 {l : List Q8} {b : D9} {k : Nat} (hk : k < l.length) : aB8 b 0 (l.take (k + 1)) = y4 (aB8 b 0 (l.take k)) l[k] (k : Int) := by
 rw [List.take_succ_eq_append_getElem hk, bj5, List.length_take];congr 1
 omega
theorem bH4 (n : Int) (i : Q8) (at_ : Int) : 1 ≤ (Q9 n i at_).length ∧ (Q9 n i at_).length ≤ 5 := by
 unfold Q9;repeat' split
 all_goals simp
def o5 (a b : Int) : Int := if a < b then -1 else if a = b then 0 else 1
theorem b9 {a b : Int} : o5 a b = 0 ↔ a = b := by
 unfold o5;split
 ·constructor
  ·intro h; simp at h
  ·intro h; omega
 ·split
  ·rename_i h; simp [h]
  ·rename_i h; simp [h]
theorem bT4 (a : Int) : o5 a a = 0 := b9.2 rfl
def orI (a b : Int) : Int := if a = 0 then b else a
theorem bj6 {a b : Int} : orI a b = 0 ↔ a = 0 ∧ b = 0 := by
 unfold orI;split
 ·rename_i h; simp [h]
 ·rename_i h; simp [h]
def b3 {α : Type} (c : α → α → Int) : List α → List α → Int
 | [], [] => 0
 | [], _ :: _ => -1
 | _ :: _, [] => 1
 | a :: l, b :: r => orI (c a b) (b3 c l r)
theorem az8 {α : Type} {c : α → α → Int} (hc : ∀ a b, c a b = 0 ↔ a = b) : ∀ l r : List α, b3 c l r = 0 ↔ l = r
 | [], [] => by simp [b3]
 | [], _ :: _ => by simp [b3]
 | _ :: _, [] => by simp [b3]
 | a :: l, b :: r => by
  rw [b3, bj6, hc, az8 hc l r];simp
theorem ap2 {α : Type} {c : α → α → Int} (hc : ∀ a b, c a b = 0 ↔ a = b) : ∀ (k : Nat) (l r : List α), l.take k = r.take k → k ≤ l.length → k ≤ r.length → b3 c l r = b3 c (l.drop k) (r.drop k)
 | 0, l, r, _, _, _ => by simp
 | k + 1, [], r, _, h, _ => by simp at h
 | k + 1, a :: l, [], _, _, h => by simp at h
 | k + 1, a :: l, b :: r, h, h1, h2 => by
  simp only [List.take_succ_cons, List.cons.injEq] at h;obtain ⟨rfl, h⟩ := h;rw [b3, (hc a a).2 rfl, List.drop_succ_cons, List.drop_succ_cons];simp only [orI, if_true];exact ap2 hc k l r h (by simpa using h1) (by simpa using h2)
theorem ar0 {α : Type} {c : α → α → Int} (hc : ∀ a b, c a b = 0 ↔ a = b) {l r : List α} {k : Nat} (hl : k < l.length) (hr : k < r.length) (h : l.take k = r.take k) (hn : c l[k] r[k] ≠ 0) : b3 c l r = c l[k] r[k] := by
 rw [ap2 hc k l r h (by omega) (by omega), List.drop_eq_getElem_cons hl, List.drop_eq_getElem_cons hr, b3, orI, if_neg hn]
theorem au0 {α : Type} {c : α → α → Int} (hc : ∀ a b, c a b = 0 ↔ a = b) {l r : List α} (hn : l.length = r.length) (h : l.take l.length = r.take l.length) : b3 c l r = 0 := by
 rw [List.take_length, hn, List.take_length] at h;exact (az8 hc l r).2 h
def au1 {α : Type} (c : α → α → Int) (l r : List α) : Int := orI (o5 (l.length : Int) (r.length : Int)) (b3 c l r)
theorem aQ7 {α : Type} {c : α → α → Int} (hc : ∀ a b, c a b = 0 ↔ a = b) (l r : List α) : au1 c l r = 0 ↔ l = r := by
 unfold au1;rw [bj6, az8 hc, b9]
 constructor
 ·intro h; exact h.2
 ·intro h; subst h; exact ⟨rfl, rfl⟩
theorem S2 {α : Type} {c : α → α → Int} {l r : List α} (h : l.length ≠ r.length) : au1 c l r = o5 (l.length : Int) (r.length : Int) := by
 unfold au1 orI;rw [if_neg (fun e => h (by have := b9.1 e; omega))]
theorem af7 {α : Type} {c : α → α → Int} {l r : List α} (h : l.length = r.length) : au1 c l r = b3 c l r := by
 unfold au1 orI;rw [h, bT4, if_pos rfl]
def O8 (a b : List Int) : Int := au1 o5 a b
def ac9 (a b : J2) : Int := orI (O8 a.atoms b.atoms) (o5 a.J9 b.J9)
def B4 (a b : G6) : Int := au1 ac9 a.j3 b.j3
theorem av0 (a b : List Int) : O8 a b = 0 ↔ a = b := aQ7 (fun _ _ => b9) a b
theorem ab0 (a b : J2) : ac9 a b = 0 ↔ a = b := by
 unfold ac9;rw [bj6, av0, b9];cases a; cases b;simp;exact ⟨fun h => ⟨h.2, h.1⟩, fun h => ⟨h.2, h.1⟩⟩
theorem aG7 (a b : G6) : B4 a b = 0 ↔ a = b := by
 unfold B4;rw [aQ7 ab0];cases a; cases b;simp
theorem C0 (a b : G6) : (B4 a b == 0) = decide (a = b) := by
 rw [Bool.eq_iff_iff];simp [aG7]
def az9 (n : Nat) (f : Nat → Bool) : Bool := (List.range n).all f
theorem Z6 {n : Nat} {f : Nat → Bool} (h : ∀ j, j < n → f j = true) : az9 n f = true := List.all_eq_true.2 fun j hj => h j (List.mem_range.1 hj)
theorem am8 {n k : Nat} {f : Nat → Bool} (hk : k < n) (h : f k = false) : az9 n f = false := by
 rw [← Bool.not_eq_true];intro q;have := List.all_eq_true.1 q k (List.mem_range.2 hk);rw [h] at this;cases this
theorem ac7 {n k : Nat} {f : Nat → Bool} (h : az9 n f = true) (hk : k < n) : f k = true := List.all_eq_true.1 h k (List.mem_range.2 hk)
theorem ai8 {k : Nat} {f : Nat → Bool} (h : ∀ j, j < k → f j = true) (hk : f k = true) : ∀ j, j < k + 1 → f j = true := fun j hj => by
 by_cases e : j = k
 ·subst e; exact hk
 ·exact h j (by omega)
theorem ad7 {n : Nat} {f : Nat → Bool} : az9 n f = true ↔ ∀ j, j < n → f j = true := ⟨fun h j hj => ac7 h hj, Z6⟩
def gN (l : List Int) (k : Nat) : Int := (l[k]?).getD 0
theorem aQ8 (l : List Int) (k : Nat) (h : k < l.length) : gN l k = l[k] := by simp [gN, List.getElem?_eq_getElem h]
def gM (l : List J2) (k : Nat) : J2 := (l[k]?).getD ⟨0, []⟩
theorem ar1 (l : List J2) (k : Nat) (h : k < l.length) : gM l k = l[k] := by simp [gM, List.getElem?_eq_getElem h]
def aA0 (l : List Int) (k : Nat) : Bool := k == 0 || decide (gN l (k - 1) ≤ gN l k)
def T4 (l : List Int) (k : Nat) : Bool := D2 (gN l k) 0 199 && aA0 l k
def P3 (m : J2) : Bool := D2 m.J9 1 65535 && decide (m.atoms.length ≤ 4) && az9 m.atoms.length (T4 m.atoms)
def aA1 (l : List J2) (k : Nat) : Bool := k == 0 || decide (O8 (gM l (k - 1)).atoms (gM l k).atoms < 0)
def T5 (l : List J2) (k : Nat) : Bool := P3 (gM l k) && aA1 l k
def O4 (p : G6) : Bool := decide (p.j3.length ≤ 12) && az9 p.j3.length (T5 p.j3)
def bu4 (l : List J2) (k : Nat) : Bool := D2 (gM l k).J9 1 65535 && decide ((gM l k).atoms.length ≤ 4) && az9 (gM l k).atoms.length (aA0 (gM l k).atoms) && aA1 l k
def ab1 (n : Int) (m : J2) : Bool := az9 m.atoms.length fun j => decide (gN m.atoms j < n)
def K7 (p : G6) (n : Int) : Bool := az9 p.j3.length fun j => ab1 n (gM p.j3 j)
def bj7 (m : J2) : Bool := decide (0 < m.atoms.length) && decide (gN m.atoms 0 < 0)
def bT5 (p : G6) : Bool := az9 p.j3.length fun j => !bj7 (gM p.j3 j)
def bJ1 (p : G6) : Bool := az9 p.j3.length (bu4 p.j3) && (decide (p.j3.length ≤ 12) && K7 p 200 && bT5 p)
theorem bO7 {l : List Int} (h : az9 l.length (aA0 l) = true) : ∀ k, k < l.length → gN l 0 ≤ gN l k
 | 0, _ => Int.le_refl _
 | k + 1, hk => by
  have h1 := bO7 h k (by omega);have h2 := ac7 h hk;unfold aA0 at h2;simp at h2;omega
theorem bJ2 (p : G6) : bJ1 p = O4 p := by
 rw [Bool.eq_iff_iff];unfold bJ1 O4;simp only [Bool.and_eq_true, decide_eq_true_eq, ad7]
 constructor
 ·rintro ⟨h1, ⟨h2, h3⟩, h4⟩
  refine ⟨h2, fun j hj => ?_⟩;have q1 := h1 j hj;have q3 := ac7 h3 hj;have q4 := ac7 h4 hj;unfold bu4 at q1;unfold T5 P3;simp only [Bool.and_eq_true, decide_eq_true_eq] at q1 ⊢;refine ⟨⟨q1.1.1, Z6 fun i hi => ?_⟩, q1.2⟩;have a1 := bO7 q1.1.2 i hi;have a2 := ac7 q1.1.2 hi;have a3 := ac7 q3 hi;unfold bj7 at q4;unfold T4 D2;simp at a3 q4 ⊢
  have a4 : 0 ≤ gN (gM p.j3 j).atoms 0 := by
   rcases q4 with h | h
   ·rw [h] at hi; simp at hi
   ·exact h
  exact ⟨⟨by omega, by omega⟩, a2⟩
 ·rintro ⟨h2, h1⟩
  refine ⟨fun j hj => ?_, ⟨h2, Z6 fun j hj => ?_⟩, Z6 fun j hj => ?_⟩
  all_goals
   have q1 := h1 j hj;unfold T5 P3 at q1;simp only [Bool.and_eq_true, decide_eq_true_eq] at q1
  ·unfold bu4
   simp only [Bool.and_eq_true, decide_eq_true_eq];refine ⟨⟨q1.1.1, Z6 fun i hi => ?_⟩, q1.2⟩;have a := ac7 q1.1.2 hi;unfold T4 at a;simp only [Bool.and_eq_true] at a;exact a.2
  ·refine Z6 fun i hi => ?_
   have a := ac7 q1.1.2 hi;unfold T4 D2 at a;simp at a ⊢;omega
  ·unfold bj7
   by_cases h0 : 0 < (gM p.j3 j).atoms.length
   ·have a := ac7 q1.1.2 h0
    unfold T4 D2 at a;simp at a ⊢;omega
   ·simp [h0]
def s2 (p : G6) : Int := if O4 p && decide (p.j3.length = 1) && decide ((gM p.j3 0).atoms.length = 0) then (gM p.j3 0).J9 else 0
def s5 (p : G6) : Bool := O4 p && (decide (p.j3.length = 0) || (decide (p.j3.length = 1) && decide ((gM p.j3 0).atoms.length = 0)))
theorem aY7 (p : G6) : 0 ≤ s2 p ∧ s2 p < 65536 := by
 unfold s2;split
 ·rename_i h
  simp only [Bool.and_eq_true, decide_eq_true_eq] at h;have hp := h.1.1;unfold O4 at hp;simp only [Bool.and_eq_true] at hp;have := ac7 hp.2 (show 0 < p.j3.length by omega);unfold T5 P3 D2 at this;simp at this;omega
 ·omega
def al1 (a : O5) : Bool := decide (a.x.j3.length = 0) && decide (a.y.j3.length = 0)
def U8 (a : O5) (n : Int) : Bool :=
 if a.kind = 1 then D2 a.k 0 3 && al1 a
 else if a.kind = 2 ∨ a.kind = 3 then D2 a.k 0 199 && al1 a
 else if a.kind = 4 then D2 a.k 1 5 && O4 a.x && O4 a.y && K7 a.x n && K7 a.y n
 else false
def gA (l : List O5) (k : Nat) : O5 := (l[k]?).getD ⟨0, 0, ⟨[]⟩, ⟨[]⟩⟩
theorem bN7 (l : List O5) (k : Nat) (h : k < l.length) : gA l k = l[k] := by simp [gA, List.getElem?_eq_getElem h]
def bh6 (l : List O5) (k : Nat) : Bool := az9 k fun j => !decide (gA l j = gA l k)
def ah2 (l : List O5) (k : Nat) : Bool := U8 (gA l k) (k : Int) && bh6 l k
def x8 (t : p4) : Bool := decide (t.atoms.length ≤ 200) && az9 t.atoms.length (ah2 t.atoms)
def ar2 (a : O5) : Nat → List O5 → Int
 | _, [] => -1
 | k, b :: r => if a = b then (k : Int) else ar2 a (k + 1) r
def ao2 (l : List O5) (a : O5) : Int := ar2 a 0 l
theorem aY8 {a : O5} : ∀ (l : List O5) (n k : Nat), k < l.length → (∀ j, j < k → gA l j ≠ a) → gA l k = a → ar2 a n l = ((n + k : Nat) : Int)
 | [], _, _, h, _, _ => by simp at h
 | b :: r, n, 0, _, _, h => by
  have h' : b = a := (by simpa [gA] using h);rw [ar2, if_pos h'.symm];rfl
 | b :: r, n, k + 1, h, hn, he => by
  have hb : ¬ a = b := fun e => hn 0 (by omega) (by simpa [gA] using e.symm);rw [ar2, if_neg hb, aY8 r (n + 1) k (by simpa using h) (fun j hj => by have := hn (j + 1) (by omega); simpa [gA] using this) (by simpa [gA] using he)];omega
theorem aK9 {a : O5} : ∀ (l : List O5) (n : Nat), (∀ j, j < l.length → gA l j ≠ a) → ar2 a n l = -1
 | [], _, _ => rfl
 | b :: r, n, h => by
  have hb : ¬ a = b := fun e => h 0 (by simp) (by simpa [gA] using e.symm);rw [ar2, if_neg hb, aK9 r (n + 1) fun j hj => by have := h (j + 1) (by simpa using hj); simpa [gA] using this]
theorem bh5 {l : List O5} {a : O5} {k : Nat} (hk : k < l.length) (h : ∀ j, j < k → gA l j ≠ a) (e : gA l k = a) : ao2 l a = (k : Int) := by
 unfold ao2; rw [aY8 l 0 k hk h e]; simp
theorem bj8 {l : List O5} {a : O5} (h : ∀ j, j < l.length → gA l j ≠ a) : ao2 l a = -1 := aK9 l 0 h
theorem aF7 (l : List O5) (a : O5) : ao2 l a = -1 ∨ ∃ k : Nat, k < l.length ∧ ao2 l a = (k : Int) ∧ gA l k = a ∧ ∀ j, j < k → gA l j ≠ a := by
 by_cases h : ∀ j, j < l.length → gA l j ≠ a
 ·exact .inl (bj8 h)
 ·refine .inr ?_
  have h2 : ∃ n : Nat, n < l.length ∧ gA l n = a := by
   refine Classical.byContradiction fun hc => h fun j hj e => hc ⟨j, hj, e⟩
  have h3 : ∀ n : Nat, (∃ j, j ≤ n ∧ j < l.length ∧ gA l j = a) → ∃ k : Nat, k < l.length ∧ gA l k = a ∧ ∀ j, j < k → gA l j ≠ a := by
   intro n
   induction n with
   | zero =>
    rintro ⟨j, hj, h1, h2⟩; obtain rfl : j = 0 := by omega
    exact ⟨0, h1, h2, fun i hi => absurd hi (by omega)⟩
   | succ n ih =>
    rintro ⟨j, hj, h1, h2⟩;by_cases hq : ∃ i, i ≤ n ∧ i < l.length ∧ gA l i = a
    ·exact ih hq
    ·obtain rfl : j = n + 1 := by
      refine Classical.byContradiction fun hne => hq ⟨j, by omega, h1, h2⟩
     exact ⟨n + 1, h1, h2, fun i hi e => hq ⟨i, by omega, by omega, e⟩⟩
  obtain ⟨n, hn, he⟩ := h2;obtain ⟨k, hk, hke, hkn⟩ := h3 n ⟨n, Nat.le_refl _, hn, he⟩;exact ⟨k, hk, bh5 hk hkn hke, hke, hkn⟩
theorem bj9 {m : J2} {a b : Int} (hab : a ≤ b) (h : ab1 a m = true) : ab1 b m = true := by
 unfold ab1 at h ⊢;refine Z6 fun j hj => ?_;have := ac7 h hj;simp at this ⊢;omega
theorem aL0 {p : G6} {a b : Int} (hab : a ≤ b) (h : K7 p a = true) : K7 p b = true := by
 unfold K7 at h ⊢;exact Z6 fun j hj => bj9 hab (ac7 h hj)
def I3 (t : p4) (a : O5) : p4 :=
 if x8 t = true then (if (U8 a (t.atoms.length : Int) && (ao2 t.atoms a == -1) && decide (t.atoms.length < 200)) = true then ⟨t.atoms ++ [a]⟩ else t) else ⟨[]⟩
def j2 (t : p4) (a : O5) : Int :=
 if x8 t = true then
  (if U8 a (t.atoms.length : Int) = true then
   (if ao2 t.atoms a = -1 then (if t.atoms.length < 200 then (t.atoms.length : Int) else -1) else ao2 t.atoms a)
  else -1)
 else -1
theorem ax5 {a b : Int} : o5 a b < 0 ↔ a < b := by
 unfold o5;split
 ·rename_i h; simp [h]
 ·split
  ·rename_i h1 h; simp; omega
  ·rename_i h1 h; simp; omega
theorem br4 (a b : Int) : o5 b a = - o5 a b := by
 unfold o5;repeat' split
 all_goals first | omega | simp
theorem bC0 {a b c d : Int} (h1 : c = -a) (h2 : d = -b) : orI c d = - orI a b := by
 subst h1 h2;unfold orI;by_cases h : a = 0
 ·simp [h]
 ·rw [if_neg h, if_neg (by omega)]
theorem aQ9 : ∀ l r : List Int, b3 o5 r l = - b3 o5 l r
 | [], [] => rfl
 | [], _ :: _ => rfl
 | _ :: _, [] => rfl
 | a :: l, b :: r => by
  rw [b3, b3];exact bC0 (br4 a b) (aQ9 l r)
theorem bp1 (a b : List Int) : O8 b a = - O8 a b := bC0 (br4 _ _) (aQ9 a b)
theorem aL1 : ∀ a b c : List Int, a.length = b.length → b.length = c.length → b3 o5 a b < 0 → b3 o5 b c < 0 → b3 o5 a c < 0
 | [], [], [], _, _, h, _ => h
 | x :: a, y :: b, z :: c, h1, h2, h3, h4 => by
  rw [b3] at h3 h4 ⊢;unfold orI at h3 h4 ⊢;by_cases e1 : o5 x y = 0
  ·have q1 := b9.1 e1
   subst q1;rw [if_pos e1] at h3;by_cases e2 : o5 x z = 0
   ·rw [if_pos e2] at h4 ⊢
    exact aL1 a b c (by simpa using h1) (by simpa using h2) h3 h4
   ·rw [if_neg e2] at h4 ⊢
    exact h4
  ·rw [if_neg e1] at h3
   have q1 := ax5.1 h3;by_cases e2 : o5 y z = 0
   ·have q2 := b9.1 e2
    subst q2;rw [if_neg e1];exact h3
   ·rw [if_neg e2] at h4
    have q2 := ax5.1 h4;have q3 : o5 x z < 0 := ax5.2 (by omega);rw [if_neg (by omega)];exact q3
theorem ar3 {a b c : List Int} (h1 : O8 a b < 0) (h2 : O8 b c < 0) : O8 a c < 0 := by
 unfold O8 at *;by_cases e1 : a.length = b.length
 ·rw [af7 e1] at h1
  by_cases e2 : b.length = c.length
  ·rw [af7 e2] at h2
   rw [af7 (e1.trans e2)];exact aL1 a b c e1 e2 h1 h2
  ·rw [S2 e2] at h2
   rw [S2 (by omega), e1];exact h2
 ·rw [S2 e1] at h1
  have q1 := ax5.1 h1;by_cases e2 : b.length = c.length
  ·rw [S2 (by omega), ← e2]
   exact h1
  ·rw [S2 e2] at h2
   have q2 := ax5.1 h2;rw [S2 (by omega)];exact ax5.2 (by omega)
def aG8 (n : Int) (m : J2) : Prop := (1 ≤ m.J9 ∧ m.J9 ≤ 65535) ∧ m.atoms.Pairwise (· ≤ ·) ∧ ∀ x, x ∈ m.atoms → 0 ≤ x ∧ x < n
def al0 (n : Int) (l : List J2) : Prop := l.Pairwise (fun a b => O8 a.atoms b.atoms < 0) ∧ ∀ m, m ∈ l → aG8 n m
theorem al0.nil (n : Int) : al0 n [] := ⟨List.Pairwise.nil, fun m h => by simp at h⟩
def s6 (m : J2) : Bool → List J2 → List J2
 | d, [] => if d then [] else [m]
 | d, x :: r =>
  (if !d && decide (O8 m.atoms x.atoms < 0) then [m] else []) ++
  (if O8 m.atoms x.atoms = 0 then (if 0 < (x.J9 + m.J9) % 65536 then [⟨(x.J9 + m.J9) % 65536, x.atoms⟩] else []) else [x]) ++
  s6 m (d || decide (O8 m.atoms x.atoms < 0) || decide (O8 m.atoms x.atoms = 0)) r
def al4 (l : List J2) (m : J2) : List J2 := s6 m false l
theorem aG9 {m : J2} : ∀ l : List J2, (∀ x, x ∈ l → O8 m.atoms x.atoms < 0) → s6 m true l = l
 | [], _ => rfl
 | x :: r, h => by
  have hx := h x (by simp);have e : ¬ O8 m.atoms x.atoms = 0 := (by omega);rw [s6, Bool.true_or, Bool.true_or, aG9 r (fun y hy => h y (by simp [hy]))];simp [e]
theorem br5 {n : Int} {m : J2} (hm : aG8 n m) : ∀ l : List J2, al0 n l → al0 n (s6 m false l) ∧ ∀ y, y ∈ s6 m false l → (y = m ∨ ∃ x, x ∈ l ∧ y.atoms = x.atoms)
 | [], _ => by
  refine ⟨⟨by simp [s6], fun y hy => ?_⟩, fun y hy => ?_⟩
  ·simp [s6] at hy; subst hy; exact hm
  ·simp [s6] at hy; exact .inl hy
 | x :: r, h => by
  have hp := List.pairwise_cons.1 h.1;have hr : al0 n r := ⟨hp.2, fun y hy => h.2 y (by simp [hy])⟩;have hxw := h.2 x (by simp);by_cases h1 : O8 m.atoms x.atoms < 0
  ·have e : s6 m false (x :: r) = m :: x :: r := by
    rw [s6];have h0 : ¬ O8 m.atoms x.atoms = 0 := (by omega);simp [h1, h0];exact aG9 r (fun y hy => ar3 h1 (hp.1 y hy))
   rw [e];refine ⟨⟨List.pairwise_cons.2 ⟨fun y hy => ?_, h.1⟩, fun y hy => ?_⟩, fun y hy => ?_⟩
   ·rcases List.mem_cons.1 hy with rfl | hy
    ·exact h1
    ·exact ar3 h1 (hp.1 y hy)
   ·rcases List.mem_cons.1 hy with rfl | hy
    ·exact hm
    ·exact h.2 y hy
   ·rcases List.mem_cons.1 hy with rfl | hy
    ·exact .inl rfl
    ·exact .inr ⟨y, hy, rfl⟩
  ·by_cases h0 : O8 m.atoms x.atoms = 0
   ·have he := (av0 _ _).1 h0
    have hd : s6 m true r = r := aG9 r (fun y hy => by rw [he]; exact hp.1 y hy);by_cases hc : 0 < (x.J9 + m.J9) % 65536
    ·have e : s6 m false (x :: r) = ⟨(x.J9 + m.J9) % 65536, x.atoms⟩ :: r := by
      rw [s6];simp [h0, hc, hd]
     rw [e];refine ⟨⟨List.pairwise_cons.2 ⟨fun y hy => hp.1 y hy, hp.2⟩, fun y hy => ?_⟩, fun y hy => ?_⟩
     ·rcases List.mem_cons.1 hy with rfl | hy
      ·exact ⟨⟨by show 1 ≤ (x.J9 + m.J9) % 65536; omega, by show (x.J9 + m.J9) % 65536 ≤ 65535; omega⟩, hxw.2⟩
      ·exact h.2 y (by simp [hy])
     ·rcases List.mem_cons.1 hy with rfl | hy
      ·exact .inr ⟨x, by simp, rfl⟩
      ·exact .inr ⟨y, by simp [hy], rfl⟩
    ·have e : s6 m false (x :: r) = r := by
      rw [s6];simp [h0, hc, hd]
     rw [e];exact ⟨hr, fun y hy => .inr ⟨y, by simp [hy], rfl⟩⟩
   ·have e : s6 m false (x :: r) = x :: s6 m false r := by
     rw [s6];simp [h1, h0]
    have hgt : O8 x.atoms m.atoms < 0 := by have := bp1 m.atoms x.atoms; omega
    obtain ⟨i1, i2⟩ := br5 hm r hr;rw [e];refine ⟨⟨List.pairwise_cons.2 ⟨fun y hy => ?_, i1.1⟩, fun y hy => ?_⟩, fun y hy => ?_⟩
    ·rcases i2 y hy with rfl | ⟨z, hz, hze⟩
     ·exact hgt
     ·rw [hze]; exact hp.1 z hz
    ·rcases List.mem_cons.1 hy with rfl | hy
     ·exact hxw
     ·exact i1.2 y hy
    ·rcases List.mem_cons.1 hy with rfl | hy
     ·exact .inr ⟨y, by simp, rfl⟩
     ·rcases i2 y hy with rfl | ⟨z, hz, hze⟩
      ·exact .inl rfl
      ·exact .inr ⟨z, by simp [hz], hze⟩
theorem bu5 {n : Int} {l : List J2} {m : J2} (h : al0 n l) (hm : aG8 n m) : al0 n (al4 l m) := (br5 hm l h).1
theorem bk0 (m : J2) : ∀ (l : List J2) (d : Bool), (s6 m d l).length ≤ l.length + (if d then 0 else 1)
 | [], d => by cases d <;> simp [s6]
 | x :: r, d => by
  rw [s6, List.length_append, List.length_append];have h1 := bk0 m r (d || decide (O8 m.atoms x.atoms < 0) || decide (O8 m.atoms x.atoms = 0));cases d with
  | true =>
   simp at h1 ⊢
   have : (if O8 m.atoms x.atoms = 0 then (if 0 < (x.J9 + m.J9) % 65536 then [(⟨(x.J9 + m.J9) % 65536, x.atoms⟩ : J2)] else []) else [x]).length ≤ 1 := by
    repeat' split
    all_goals simp
   omega
  | false =>
   have h2 : (if O8 m.atoms x.atoms = 0 then (if 0 < (x.J9 + m.J9) % 65536 then [(⟨(x.J9 + m.J9) % 65536, x.atoms⟩ : J2)] else []) else [x]).length ≤ 1 := by
    repeat' split
    all_goals simp
   by_cases h : O8 m.atoms x.atoms < 0
   ·simp [h] at h1 ⊢
    omega
   ·simp [h] at h1 ⊢
    split at h1 <;> omega
theorem bC1 (l : List J2) (m : J2) : (al4 l m).length ≤ l.length + 1 := by have := bk0 m l false; simpa [al4] using this
def C2 : List Int → List Int → List Int
 | a, [] => a
 | a, y :: r => a.takeWhile (fun x => decide (x ≤ y)) ++ y :: C2 (a.dropWhile (fun x => decide (x ≤ y))) r
theorem aA2 {x : Int} : ∀ (b a : List Int), x ∈ C2 a b → x ∈ a ∨ x ∈ b
 | [], a, h => .inl h
 | y :: r, a, h => by
  rw [C2] at h;rcases List.mem_append.1 h with h | h
  ·exact .inl (List.takeWhile_prefix _ |>.subset h)
  ·rcases List.mem_cons.1 h with rfl | h
   ·exact .inr (by simp)
   ·rcases aA2 r _ h with h | h
    ·exact .inl (List.dropWhile_suffix _ |>.subset h)
    ·exact .inr (by simp [h])
theorem aL2 {y : Int} : ∀ (a : List Int) (x : Int), x ∈ a.takeWhile (fun x => decide (x ≤ y)) → x ≤ y
 | [], x, h => by simp at h
 | z :: r, x, h => by
  rw [List.takeWhile_cons] at h;split at h
  ·rename_i hz
   rcases List.mem_cons.1 h with rfl | h
   ·simpa using hz
   ·exact aL2 r x h
  ·simp at h
theorem av1 {y : Int} : ∀ (a : List Int), a.Pairwise (· ≤ ·) → ∀ x, x ∈ a.dropWhile (fun x => decide (x ≤ y)) → y < x
 | [], _, x, h => by simp at h
 | z :: r, hp, x, h => by
  rw [List.dropWhile_cons] at h;split at h
  ·exact av1 r (List.pairwise_cons.1 hp).2 x h
  ·rename_i hz
   have hz' : y < z := (by simpa using hz);rcases List.mem_cons.1 h with rfl | h
   ·exact hz'
   ·have := (List.pairwise_cons.1 hp).1 x h
    omega
theorem bk3 : ∀ (b a : List Int), a.Pairwise (· ≤ ·) → b.Pairwise (· ≤ ·) → (C2 a b).Pairwise (· ≤ ·)
 | [], a, ha, _ => ha
 | y :: r, a, ha, hb => by
  have hb' := List.pairwise_cons.1 hb;rw [C2];refine List.pairwise_append.2 ⟨List.Pairwise.sublist (List.takeWhile_sublist _) ha, List.pairwise_cons.2 ⟨fun x hx => ?_, bk3 r _ (List.Pairwise.sublist (List.dropWhile_sublist _) ha) hb'.2⟩, fun x hx z hz => ?_⟩
  ·rcases aA2 r _ hx with hx | hx
   ·have := av1 a ha x hx; omega
   ·exact hb'.1 x hx
  ·have h1 := aL2 a x hx
   rcases List.mem_cons.1 hz with rfl | hz
   ·exact h1
   ·rcases aA2 r _ hz with hz | hz
    ·have := av1 a ha z hz; omega
    ·have := hb'.1 z hz; omega
def bp2 (a b : List J2) : List J2 := b.foldl al4 a
theorem cc7 {n : Int} : ∀ (b a : List J2), al0 n a → (∀ m, m ∈ b → aG8 n m) → al0 n (bp2 a b)
 | [], a, ha, _ => ha
 | m :: r, a, ha, hb => cc7 r _ (bu5 ha (hb m (by simp))) (fun x hx => hb x (by simp [hx]))
def af8 (x : J2) (l : List J2) (y : J2) : List J2 := if 0 < (x.J9 * y.J9) % 65536 then al4 l ⟨(x.J9 * y.J9) % 65536, C2 x.atoms y.atoms⟩ else l
def aH0 (b : List J2) (l : List J2) (x : J2) : List J2 := b.foldl (af8 x) l
def mulL (a b : List J2) : List J2 := a.foldl (aH0 b) []
theorem bk4 {n : Int} {x y : J2} {l : List J2} (hl : al0 n l) (hx : aG8 n x) (hy : aG8 n y) : al0 n (af8 x l y) := by
 unfold af8;split
 ·refine bu5 hl ⟨⟨by show 1 ≤ x.J9 * y.J9 % 65536; omega, by show x.J9 * y.J9 % 65536 ≤ 65535; omega⟩, bk3 _ _ hx.2.1 hy.2.1, fun z hz => ?_⟩
  rcases aA2 _ _ hz with hz | hz
  ·exact hx.2.2 z hz
  ·exact hy.2.2 z hz
 ·exact hl
theorem br6 {n : Int} {x : J2} (hx : aG8 n x) : ∀ (b l : List J2), al0 n l → (∀ y, y ∈ b → aG8 n y) → al0 n (aH0 b l x)
 | [], l, hl, _ => hl
 | y :: r, l, hl, hb => br6 hx r _ (bk4 hl hx (hb y (by simp))) (fun z hz => hb z (by simp [hz]))
theorem bk5 {n : Int} {b : List J2} (hb : ∀ y, y ∈ b → aG8 n y) : ∀ (a l : List J2), al0 n l → (∀ x, x ∈ a → aG8 n x) → al0 n (a.foldl (aH0 b) l)
 | [], l, hl, _ => hl
 | x :: r, l, hl, ha => bk5 hb r _ (br6 (ha x (by simp)) b l hl hb) (fun z hz => ha z (by simp [hz]))
theorem cA8 {n : Int} {a b : List J2} (ha : al0 n a) (hb : al0 n b) : al0 n (mulL a b) := bk5 hb.2 a [] (al0.nil n) ha.2
def ap3 (l : List J2) : Bool := decide (l.length ≤ 12) && az9 l.length fun j => decide ((gM l j).atoms.length ≤ 4)
theorem ap7 {p : G6} {n : Int} (h : O4 p = true) (hu : K7 p n = true) : al0 n p.j3 := by
 unfold O4 at h;simp only [Bool.and_eq_true, decide_eq_true_eq] at h;have hm := ad7.1 h.2;have hu' := ad7.1 hu
 have hat : ∀ m, m ∈ p.j3 → aG8 n m := fun m hx => by
  obtain ⟨i, hi, rfl⟩ := List.getElem_of_mem hx;have h1 := hm i hi;have h2 := hu' i hi;unfold T5 P3 at h1;rw [ar1 _ _ hi] at h1 h2;simp only [Bool.and_eq_true, decide_eq_true_eq] at h1;have hc := h1.1.1.1;unfold D2 at hc;simp at hc;have ha := ad7.1 h1.1.2;have hn := ad7.1 h2;refine ⟨hc, List.pairwise_iff_getElem.2 fun a b ha1 hb1 hab => ?_, fun x hx => ?_⟩
  ·-- step by step
   have hstep : ∀ d, a + d < p.j3[i].atoms.length → p.j3[i].atoms[a] ≤ gN p.j3[i].atoms (a + d) := by
    intro d
    induction d with
    | zero => intro hd; rw [Nat.add_zero, aQ8 _ _ ha1]; exact Int.le_refl _
    | succ d ih =>
     intro hd;have h4 := ih (by omega);have h5 := ha (a + (d + 1)) hd;unfold T4 aA0 at h5;simp only [Bool.and_eq_true, Bool.or_eq_true, beq_iff_eq, decide_eq_true_eq] at h5
     have : gN p.j3[i].atoms (a + d) ≤ gN p.j3[i].atoms (a + (d + 1)) := by
      rcases h5.2 with q | q
      ·omega
      ·rw [show a + (d + 1) - 1 = a + d by omega] at q
       exact q
     omega
   have := hstep (b - a) (by omega);rw [show a + (b - a) = b by omega, aQ8 _ _ hb1] at this;exact this
  ·obtain ⟨j, hj, rfl⟩ := List.getElem_of_mem hx
   have h3 := ha j hj;have h4 := hn j hj;unfold T4 D2 at h3;rw [aQ8 _ _ hj] at h3 h4;simp at h3 h4;exact ⟨h3.1.1, h4⟩
 refine ⟨?_, hat⟩;refine List.pairwise_iff_getElem.2 fun a b ha1 hb1 hab => ?_
 have hstep : ∀ d, a + d + 1 < p.j3.length → O8 p.j3[a].atoms (gM p.j3 (a + d + 1)).atoms < 0 := by
  intro d
  induction d with
  | zero =>
   intro hd;have h5 := hm (a + 0 + 1) hd;unfold T5 aA1 at h5;simp only [Bool.and_eq_true, Bool.or_eq_true, beq_iff_eq, decide_eq_true_eq] at h5;rcases h5.2 with q | q
   ·omega
   ·rw [show a + 0 + 1 - 1 = a by omega, ar1 _ a ha1] at q
    exact q
  | succ d ih =>
   intro hd;have h4 := ih (by omega);have h5 := hm (a + (d + 1) + 1) hd;unfold T5 aA1 at h5;simp only [Bool.and_eq_true, Bool.or_eq_true, beq_iff_eq, decide_eq_true_eq] at h5;rcases h5.2 with q | q
   ·omega
   ·rw [show a + (d + 1) + 1 - 1 = a + d + 1 by omega] at q
    exact ar3 h4 q
 have := hstep (b - a - 1) (by omega);rw [show a + (b - a - 1) + 1 = b by omega, ar1 _ b hb1] at this;exact this
theorem ax6 {l : List J2} {n : Int} (hn : n ≤ 200) (h : al0 n l) (hf : ap3 l = true) : O4 ⟨l⟩ = true ∧ K7 ⟨l⟩ n = true := by
 unfold ap3 at hf;simp only [Bool.and_eq_true, decide_eq_true_eq] at hf;have hfa := ad7.1 hf.2
 constructor
 ·unfold O4
  simp only [Bool.and_eq_true, decide_eq_true_eq];refine ⟨hf.1, Z6 fun j hj => ?_⟩;have hm := h.2 l[j] (List.getElem_mem hj);have hl4 := hfa j hj;unfold T5 P3;rw [ar1 _ _ hj] at hl4 ⊢;simp only [Bool.and_eq_true, decide_eq_true_eq];refine ⟨⟨⟨by unfold D2; simp; exact hm.1, by simpa using hl4⟩, Z6 fun i hi => ?_⟩, ?_⟩
  ·unfold T4 D2 aA0
   have hx := hm.2.2 _ (List.getElem_mem hi);rw [aQ8 _ _ hi];simp only [Bool.and_eq_true, Bool.or_eq_true, decide_eq_true_eq, beq_iff_eq];refine ⟨⟨hx.1, by omega⟩, ?_⟩;by_cases h0 : i = 0
   ·exact .inl h0
   ·refine .inr ?_
    rw [aQ8 _ (i - 1) (by omega)];exact List.pairwise_iff_getElem.1 hm.2.1 (i - 1) i (by omega) hi (by omega)
  ·unfold aA1
   simp only [Bool.or_eq_true, beq_iff_eq, decide_eq_true_eq];by_cases h0 : j = 0
   ·exact .inl h0
   ·refine .inr ?_
    rw [ar1 l (j - 1) (by omega), ar1 l j hj];exact List.pairwise_iff_getElem.1 h.1 (j - 1) j (by omega) hj (by omega)
 ·unfold K7
  refine Z6 fun j hj => ?_;have hm := h.2 l[j] (List.getElem_mem hj);unfold ab1;rw [ar1 l j hj];exact Z6 fun i hi => decide_eq_true (by rw [aQ8 _ _ hi]; exact (hm.2.2 _ (List.getElem_mem hi)).2)
def ab2 (a b : G6) : G6 := if O4 a && O4 b && ap3 (bp2 a.j3 b.j3) then ⟨bp2 a.j3 b.j3⟩ else ⟨[]⟩
def S3 (a b : G6) : Bool := O4 a && O4 b && ap3 (bp2 a.j3 b.j3)
def af2 (a b : G6) : G6 := if O4 a && O4 b && ap3 (mulL a.j3 b.j3) then ⟨mulL a.j3 b.j3⟩ else ⟨[]⟩
def V2 (a b : G6) : Bool := O4 a && O4 b && ap3 (mulL a.j3 b.j3)
theorem bT6 {a b : G6} {n : Int} (hn : n ≤ 200) (h : S3 a b = true) (ha : K7 a n = true) (hb : K7 b n = true) : O4 (ab2 a b) = true ∧ K7 (ab2 a b) n = true := by
 unfold ab2;unfold S3 at h;rw [if_pos h];simp only [Bool.and_eq_true] at h;exact ax6 hn (cc7 _ _ (ap7 h.1.1 ha) (ap7 h.1.2 hb).2) h.2
theorem bT7 {a b : G6} {n : Int} (hn : n ≤ 200) (h : V2 a b = true) (ha : K7 a n = true) (hb : K7 b n = true) : O4 (af2 a b) = true ∧ K7 (af2 a b) n = true := by
 unfold af2;unfold V2 at h;rw [if_pos h];simp only [Bool.and_eq_true] at h;exact ax6 hn (cA8 (ap7 h.1.1 ha) (ap7 h.1.2 hb)) h.2
end Go.Proofs.YtmbclopkopfngaaGreat
