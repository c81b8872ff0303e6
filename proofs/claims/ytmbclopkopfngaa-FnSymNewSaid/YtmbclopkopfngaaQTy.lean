/-
  Ty, WordPure, MachPure, Words, SymPure, PolPure
-/
import Derived.Test.YtmbclopkopfngaaQLib
import Derived.Test.YtmbclopkopfngaaQRegLib
import Derived.Test.YtmbclopkopfngaaRows
import Derived.Deep.DeepCutAuto
namespace Go.Proofs.Ytmbclopkopfngaa
open Go.RowKit

set_option linter.unusedVariables false
set_option linter.unusedSimpArgs false
set_option maxRecDepth 100000

theorem at_Int {w : World} {S : Nat → Prop} {A : Option Addr} {n c : Nat} {l : List Int} (h : Sl w S (.slice A n c) l) {i : Nat} (hi : i < l.length) :
    ∃ (b off : Nat), A = some ⟨b, off, none⟩ ∧ S b ∧ Fits l[i] ∧ w.cell? ⟨b, off + i, none⟩ = some (.int .i64 (l[i])) := by
  obtain ⟨A', c', h1, _, _, _, h4⟩ := h
  injection h1 with e1 e2 e3
  subst e1
  obtain ⟨b, off, e, hb, hh⟩ := h4 (by intro e; simp [e] at hi)
  obtain ⟨vs, hv, hc⟩ := hh i _ (List.getElem?_eq_getElem hi)
  obtain ⟨rfl, hk⟩ := hv
  exact ⟨b, off, e, hb, hk, by simpa [Rep.sz] using hc 0 _ rfl⟩

theorem at_UInt8 {w : World} {S : Nat → Prop} {A : Option Addr} {n c : Nat} {l : List UInt8} (h : Sl w S (.slice A n c) l) {i : Nat} (hi : i < l.length) :
    ∃ (b off : Nat), A = some ⟨b, off, none⟩ ∧ S b ∧ w.cell? ⟨b, off + i, none⟩ = some (.int .u8 (l[i].toNat : Int)) := by
  obtain ⟨A', c', h1, _, _, _, h4⟩ := h
  injection h1 with e1 e2 e3
  subst e1
  obtain ⟨b, off, e, hb, hh⟩ := h4 (by intro e; simp [e] at hi)
  obtain ⟨vs, hv, hc⟩ := hh i _ (List.getElem?_eq_getElem hi)
  obtain rfl := hv
  exact ⟨b, off, e, hb, by simpa [Rep.sz] using hc 0 _ rfl⟩

structure TrmMono where
  coef : Int
  atoms : List Int
  deriving DecidableEq

/-- The numbers fit. -/
def TrmMono.Ok (o : TrmMono) : Prop := Fits o.coef

instance : Rep TrmMono where
  sz := 2
  rep w S vs o := ∃ v1 : Value, vs = [.int .i64 o.coef, v1] ∧ o.Ok ∧ Sl w S v1 o.atoms
  len h := by obtain ⟨v1, rfl, hk, h1⟩ := h; rfl
  keep h hc hs := by obtain ⟨v1, rfl, hk, h1⟩ := h; exact ⟨v1, rfl, hk, h1.keep hc hs⟩

instance : Own TrmMono where
  own w vs o F := ∃ (v1 : Value), vs = [.int .i64 o.coef, v1] ∧ o.Ok ∧ OwnSl w v1 o.atoms F
  asRep h := by obtain ⟨v1, rfl, hk, h1⟩ := h; exact ⟨v1, rfl, hk, h1.sl.keep (fun _ _ _ => rfl) (fun b hb => by simp [hb])⟩
  stay h hF := by obtain ⟨v1, rfl, hk, h1⟩ := h; exact ⟨v1, rfl, hk, h1.stay (fun b hb => hF b (by simp [hb]))⟩

theorem at_TrmMono {w : World} {S : Nat → Prop} {A : Option Addr} {n c : Nat} {l : List TrmMono} (h : Sl w S (.slice A n c) l) {i : Nat} (hi : i < l.length) :
    ∃ (b off : Nat) (v1 : Value), A = some ⟨b, off, none⟩ ∧ S b ∧ l[i].Ok ∧ Sl w S v1 l[i].atoms ∧ w.cell? ⟨b, off + i * 2, none⟩ = some (.int .i64 (l[i].coef)) ∧ w.cell? ⟨b, off + i * 2 + 1, none⟩ = some (v1) := by
  obtain ⟨A', c', h1, _, _, _, h4⟩ := h
  injection h1 with e1 e2 e3
  subst e1
  obtain ⟨b, off, e, hb, hh⟩ := h4 (by intro e; simp [e] at hi)
  obtain ⟨vs, hv, hc⟩ := hh i _ (List.getElem?_eq_getElem hi)
  obtain ⟨v1, rfl, hk, h1⟩ := hv
  exact ⟨b, off, v1, e, hb, hk, h1, hc 0 _ rfl, hc 1 _ rfl⟩

theorem TrmMono.eq_iff (a b : TrmMono) : a = b ↔ a.coef = b.coef ∧ a.atoms = b.atoms := by
  cases a; cases b; simp

structure TrmPoly where
  monos : List TrmMono
  deriving DecidableEq

/-- The numbers fit. -/
def TrmPoly.Ok (o : TrmPoly) : Prop := True

instance : Rep TrmPoly where
  sz := 1
  rep w S vs o := ∃ v1 : Value, vs = [v1] ∧ o.Ok ∧ Sl w S v1 o.monos
  len h := by obtain ⟨v1, rfl, hk, h1⟩ := h; rfl
  keep h hc hs := by obtain ⟨v1, rfl, hk, h1⟩ := h; exact ⟨v1, rfl, hk, h1.keep hc hs⟩

instance : Own TrmPoly where
  own w vs o F := ∃ (v1 : Value), vs = [v1] ∧ o.Ok ∧ OwnSl w v1 o.monos F
  asRep h := by obtain ⟨v1, rfl, hk, h1⟩ := h; exact ⟨v1, rfl, hk, h1.sl.keep (fun _ _ _ => rfl) (fun b hb => by simp [hb])⟩
  stay h hF := by obtain ⟨v1, rfl, hk, h1⟩ := h; exact ⟨v1, rfl, hk, h1.stay (fun b hb => hF b (by simp [hb]))⟩

theorem at_TrmPoly {w : World} {S : Nat → Prop} {A : Option Addr} {n c : Nat} {l : List TrmPoly} (h : Sl w S (.slice A n c) l) {i : Nat} (hi : i < l.length) :
    ∃ (b off : Nat) (v1 : Value), A = some ⟨b, off, none⟩ ∧ S b ∧ l[i].Ok ∧ Sl w S v1 l[i].monos ∧ w.cell? ⟨b, off + i, none⟩ = some (v1) := by
  obtain ⟨A', c', h1, _, _, _, h4⟩ := h
  injection h1 with e1 e2 e3
  subst e1
  obtain ⟨b, off, e, hb, hh⟩ := h4 (by intro e; simp [e] at hi)
  obtain ⟨vs, hv, hc⟩ := hh i _ (List.getElem?_eq_getElem hi)
  obtain ⟨v1, rfl, hk, h1⟩ := hv
  exact ⟨b, off, v1, e, hb, hk, h1, by simpa [Rep.sz] using hc 0 _ rfl⟩

theorem TrmPoly.eq_iff (a b : TrmPoly) : a = b ↔ a.monos = b.monos := by
  cases a; cases b; simp

structure TabAtom where
  kind : Int
  k : Int
  x : TrmPoly
  y : TrmPoly
  deriving DecidableEq

/-- The numbers fit. -/
def TabAtom.Ok (o : TabAtom) : Prop := Fits o.kind ∧ Fits o.k

instance : Rep TabAtom where
  sz := 4
  rep w S vs o := ∃ v1 v2 : Value, vs = [.int .i64 o.kind, .int .i64 o.k, v1, v2] ∧ o.Ok ∧ Sl w S v1 o.x.monos ∧ Sl w S v2 o.y.monos
  len h := by obtain ⟨v1, v2, rfl, hk, h1, h2⟩ := h; rfl
  keep h hc hs := by obtain ⟨v1, v2, rfl, hk, h1, h2⟩ := h; exact ⟨v1, v2, rfl, hk, h1.keep hc hs, h2.keep hc hs⟩

instance : Own TabAtom where
  own w vs o F := ∃ (v1 v2 : Value) (F1 F2 : List Nat), vs = [.int .i64 o.kind, .int .i64 o.k, v1, v2] ∧ o.Ok ∧ OwnSl w v1 o.x.monos F1 ∧ OwnSl w v2 o.y.monos F2 ∧ F = F1 ++ F2
  asRep h := by obtain ⟨v1, v2, F1, F2, rfl, hk, h1, h2, rfl⟩ := h; exact ⟨v1, v2, rfl, hk, h1.sl.keep (fun _ _ _ => rfl) (fun b hb => by simp [hb]), h2.sl.keep (fun _ _ _ => rfl) (fun b hb => by simp [hb])⟩
  stay h hF := by obtain ⟨v1, v2, F1, F2, rfl, hk, h1, h2, rfl⟩ := h; exact ⟨v1, v2, F1, F2, rfl, hk, h1.stay (fun b hb => hF b (by simp [hb])), h2.stay (fun b hb => hF b (by simp [hb])), rfl⟩

theorem at_TabAtom {w : World} {S : Nat → Prop} {A : Option Addr} {n c : Nat} {l : List TabAtom} (h : Sl w S (.slice A n c) l) {i : Nat} (hi : i < l.length) :
    ∃ (b off : Nat) (v1 v2 : Value), A = some ⟨b, off, none⟩ ∧ S b ∧ l[i].Ok ∧ Sl w S v1 l[i].x.monos ∧ Sl w S v2 l[i].y.monos ∧ w.cell? ⟨b, off + i * 4, none⟩ = some (.int .i64 (l[i].kind)) ∧ w.cell? ⟨b, off + i * 4 + 1, none⟩ = some (.int .i64 (l[i].k)) ∧ w.cell? ⟨b, off + i * 4 + 2, none⟩ = some (v1) ∧ w.cell? ⟨b, off + i * 4 + 3, none⟩ = some (v2) := by
  obtain ⟨A', c', h1, _, _, _, h4⟩ := h
  injection h1 with e1 e2 e3
  subst e1
  obtain ⟨b, off, e, hb, hh⟩ := h4 (by intro e; simp [e] at hi)
  obtain ⟨vs, hv, hc⟩ := hh i _ (List.getElem?_eq_getElem hi)
  obtain ⟨v1, v2, rfl, hk, h1, h2⟩ := hv
  exact ⟨b, off, v1, v2, e, hb, hk, h1, h2, hc 0 _ rfl, hc 1 _ rfl, hc 2 _ rfl, hc 3 _ rfl⟩

theorem TabAtom.eq_iff (a b : TabAtom) : a = b ↔ a.kind = b.kind ∧ a.k = b.k ∧ a.x = b.x ∧ a.y = b.y := by
  cases a; cases b; simp

structure TabTab where
  atoms : List TabAtom
  deriving DecidableEq

/-- The numbers fit. -/
def TabTab.Ok (o : TabTab) : Prop := True

instance : Rep TabTab where
  sz := 1
  rep w S vs o := ∃ v1 : Value, vs = [v1] ∧ o.Ok ∧ Sl w S v1 o.atoms
  len h := by obtain ⟨v1, rfl, hk, h1⟩ := h; rfl
  keep h hc hs := by obtain ⟨v1, rfl, hk, h1⟩ := h; exact ⟨v1, rfl, hk, h1.keep hc hs⟩

instance : Own TabTab where
  own w vs o F := ∃ (v1 : Value), vs = [v1] ∧ o.Ok ∧ OwnSl w v1 o.atoms F
  asRep h := by obtain ⟨v1, rfl, hk, h1⟩ := h; exact ⟨v1, rfl, hk, h1.sl.keep (fun _ _ _ => rfl) (fun b hb => by simp [hb])⟩
  stay h hF := by obtain ⟨v1, rfl, hk, h1⟩ := h; exact ⟨v1, rfl, hk, h1.stay (fun b hb => hF b (by simp [hb]))⟩

theorem TabTab.eq_iff (a b : TabTab) : a = b ↔ a.atoms = b.atoms := by
  cases a; cases b; simp

instance : Bulk TrmMono := ⟨fun o => Bulk.blk o.atoms⟩

instance : Bulk TrmPoly := ⟨fun o => Bulk.blk o.monos⟩

instance : Bulk TabAtom := ⟨fun o => Bulk.blk o.x + Bulk.blk o.y⟩

instance : Bulk TabTab := ⟨fun o => Bulk.blk o.atoms⟩

end Go.Proofs.Ytmbclopkopfngaa

namespace Go.Proofs.Ytmbclopkopfngaa
open Go.RowKit

set_option linter.unusedVariables false
set_option linter.unusedSimpArgs false
set_option maxRecDepth 100000

/-- A number in a range. -/
def inB (n lo hi : Int) : Bool := decide (lo ≤ n) && decide (n ≤ hi)
def wordB (n : Int) : Bool := decide (0 ≤ n) && decide (n < 65536)
theorem inB_yes {n lo hi : Int} (h1 : lo ≤ n) (h2 : n ≤ hi) : inB n lo hi = true := by simp [inB, h1, h2]
theorem inB_low {n lo hi : Int} (h1 : n < lo) : inB n lo hi = false := by unfold inB; rw [decide_eq_false (by omega)]; rfl
theorem inB_high {n lo hi : Int} (h1 : hi < n) : inB n lo hi = false := by unfold inB; rw [decide_eq_false (p := n ≤ hi) (by omega)]; simp
theorem wordB_yes {n : Int} (h1 : 0 ≤ n) (h2 : n < 65536) : wordB n = true := by simp [wordB, h1, h2]
theorem wordB_low {n : Int} (h1 : n < 0) : wordB n = false := by unfold wordB; rw [decide_eq_false (by omega)]; rfl
theorem wordB_high {n : Int} (h1 : 65536 ≤ n) : wordB n = false := by unfold wordB; rw [decide_eq_false (p := n < 65536) (by omega)]; simp
theorem wordB_iff {n : Int} : wordB n = true ↔ 0 ≤ n ∧ n < 65536 := by simp [wordB]
theorem ret_bool {a b : Bool} (h : a = b) : Ending.returned (.bool a) = .returned (.bool b) := by rw [h]

end Go.Proofs.Ytmbclopkopfngaa

namespace Go.Proofs.Ytmbclopkopfngaa
open Go.RowKit
set_option linter.unusedVariables false
set_option linter.unusedSimpArgs false

def wrdDo (op a b : Int) : Int :=
  if wordB a && wordB b then
    if op = 1 then (a + b) % 65536 else if op = 2 then (a - b) % 65536 else if op = 3 then a * b % 65536
    else if op = 4 then ((a.toNat &&& b.toNat : Nat) : Int) else if op = 5 then ((a.toNat ^^^ b.toNat : Nat) : Int) else 0
  else 0
theorem wrdDo_word (op a b : Int) : wordB (wrdDo op a b) = true := by
  unfold wrdDo
  split
  · rename_i h
    simp [wordB] at h
    have ha : a.toNat < 2 ^ 16 := by omega
    have hb : b.toNat < 2 ^ 16 := by omega
    repeat' split
    all_goals refine wordB_yes ?_ ?_
    all_goals first | omega | (have := Nat.and_lt_two_pow a.toNat hb; omega) | (have := Nat.xor_lt_two_pow ha hb; omega)
  · exact wordB_yes (by omega) (by omega)

end Go.Proofs.Ytmbclopkopfngaa

namespace Go.Proofs.Ytmbclopkopfngaa
open Go.RowKit

set_option linter.unusedVariables false
set_option linter.unusedSimpArgs false
set_option maxRecDepth 100000

theorem l1In_any (n lo hi : Int) (w : World) : Calls Try.prog 68 #[.int .i64 n, .int .i64 lo, .int .i64 hi] w fun e w' => e = .returned (.bool (inB n lo hi)) ∧ w = w' := by
  by_cases h1 : lo ≤ n
  · by_cases h2 : n ≤ hi
    · have H := hide (inB_yes h1 h2)
      go_enter Try.func68, Try.ntmps68
      go_wp2
      go_ret
      exact ⟨ret_bool H.out.symm, rfl⟩
    · have H := hide (inB_high (lo := lo) (show hi < n by omega))
      have h3 : hi < n := by omega
      go_enter Try.func68, Try.ntmps68
      go_wp2
      go_ret
      exact ⟨ret_bool H.out.symm, rfl⟩
  · have H := hide (inB_low (hi := hi) (show n < lo by omega))
    have h3 : n < lo := by omega
    go_enter Try.func68, Try.ntmps68
    go_wp2
    go_ret
    exact ⟨ret_bool H.out.symm, rfl⟩

theorem in_any (n lo hi : Int) (w : World) : Calls Try.prog 59 #[.int .i64 n, .int .i64 lo, .int .i64 hi] w fun e w' => e = .returned (.bool (inB n lo hi)) ∧ w = w' := by
  by_cases h1 : lo ≤ n
  · by_cases h2 : n ≤ hi
    · have H := hide (inB_yes h1 h2)
      go_enter Try.func59, Try.ntmps59
      go_wp2
      go_ret
      exact ⟨ret_bool H.out.symm, rfl⟩
    · have H := hide (inB_high (lo := lo) (show hi < n by omega))
      have h3 : hi < n := by omega
      go_enter Try.func59, Try.ntmps59
      go_wp2
      go_ret
      exact ⟨ret_bool H.out.symm, rfl⟩
  · have H := hide (inB_low (hi := hi) (show n < lo by omega))
    have h3 : n < lo := by omega
    go_enter Try.func59, Try.ntmps59
    go_wp2
    go_ret
    exact ⟨ret_bool H.out.symm, rfl⟩

theorem isReg_any (n : Int) (w : World) : Calls Try.prog 62 #[.int .i64 n] w fun e w' => e = .returned (.bool (inB n 0 3)) ∧ w = w' := by
  go_enter Try.func62, Try.ntmps62
  go_wp2_with (go_at_call 59; refine (in_any _ _ _ _).mono ?_; rintro e w' ⟨rfl, rfl⟩)
  go_ret
  exact ⟨rfl, rfl⟩

theorem isOp_any (n : Int) (w : World) : Calls Try.prog 60 #[.int .i64 n] w fun e w' => e = .returned (.bool (inB n 1 5)) ∧ w = w' := by
  go_enter Try.func60, Try.ntmps60
  go_wp2_with (go_at_call 59; refine (in_any _ _ _ _).mono ?_; rintro e w' ⟨rfl, rfl⟩)
  go_ret
  exact ⟨rfl, rfl⟩

theorem implWrdOk_any (n : Int) (w : World) : Calls Try.prog 32 #[.int .i64 n] w fun e w' => e = .returned (.bool (inB n 0 65535)) ∧ w = w' := by
  go_enter Try.func32, Try.ntmps32
  go_wp2_with (go_at_call 59; refine (in_any _ _ _ _).mono ?_; rintro e w' ⟨rfl, rfl⟩)
  go_ret
  exact ⟨rfl, rfl⟩

theorem specWrdOk_any (n : Int) (w : World) : Calls Try.prog 46 #[.int .i64 n] w fun e w' => e = .returned (.bool (wordB n)) ∧ w = w' := by
  by_cases h1 : 0 ≤ n
  · by_cases h2 : n < 65536
    · have H := hide (wordB_yes h1 h2)
      go_enter Try.func46, Try.ntmps46
      go_wp2
      go_ret
      exact ⟨ret_bool H.out.symm, rfl⟩
    · have H := hide (wordB_high (show 65536 ≤ n by omega))
      have h3 : 65536 ≤ n := by omega
      go_enter Try.func46, Try.ntmps46
      go_wp2
      go_ret
      exact ⟨ret_bool H.out.symm, rfl⟩
  · have H := hide (wordB_low (show n < 0 by omega))
    have h3 : n < 0 := by omega
    go_enter Try.func46, Try.ntmps46
    go_wp2
    go_ret
    exact ⟨ret_bool H.out.symm, rfl⟩

end Go.Proofs.Ytmbclopkopfngaa

namespace Go.Proofs.Ytmbclopkopfngaa
open Go.RowKit
set_option linter.unusedVariables false
set_option linter.unusedSimpArgs false

def cmpI (a b : Int) : Int := if a < b then -1 else if a = b then 0 else 1
theorem cmpI_zero {a b : Int} : cmpI a b = 0 ↔ a = b := by
  unfold cmpI
  split
  · constructor
    · intro h; simp at h
    · intro h; omega
  · split
    · rename_i h; simp [h]
    · rename_i h; simp [h]
theorem cmpI_self (a : Int) : cmpI a a = 0 := cmpI_zero.2 rfl
/-- The first of two that is not 0. -/
def orI (a b : Int) : Int := if a = 0 then b else a
theorem orI_zero {a b : Int} : orI a b = 0 ↔ a = 0 ∧ b = 0 := by
  unfold orI
  split
  · rename_i h; simp [h]
  · rename_i h; simp [h]
/-- Lists, element by element: the first two that differ decide; what is left over counts. -/
def listCmp {α : Type} (c : α → α → Int) : List α → List α → Int
  | [], [] => 0
  | [], _ :: _ => -1
  | _ :: _, [] => 1
  | a :: l, b :: r => orI (c a b) (listCmp c l r)
theorem listCmp_zero {α : Type} {c : α → α → Int} (hc : ∀ a b, c a b = 0 ↔ a = b) : ∀ l r : List α, listCmp c l r = 0 ↔ l = r
  | [], [] => by simp [listCmp]
  | [], _ :: _ => by simp [listCmp]
  | _ :: _, [] => by simp [listCmp]
  | a :: l, b :: r => by
    rw [listCmp, orI_zero, hc, listCmp_zero hc l r]
    simp
theorem listCmp_drop {α : Type} {c : α → α → Int} (hc : ∀ a b, c a b = 0 ↔ a = b) : ∀ (k : Nat) (l r : List α), l.take k = r.take k → k ≤ l.length → k ≤ r.length → listCmp c l r = listCmp c (l.drop k) (r.drop k)
  | 0, l, r, _, _, _ => by simp
  | k + 1, [], r, _, h, _ => by simp at h
  | k + 1, a :: l, [], _, _, h => by simp at h
  | k + 1, a :: l, b :: r, h, h1, h2 => by
    simp only [List.take_succ_cons, List.cons.injEq] at h
    obtain ⟨rfl, h⟩ := h
    rw [listCmp, (hc a a).2 rfl, List.drop_succ_cons, List.drop_succ_cons]
    simp only [orI, if_true]
    exact listCmp_drop hc k l r h (by simpa using h1) (by simpa using h2)
/-- At the first place at which two lists differ. -/
theorem listCmp_at {α : Type} {c : α → α → Int} (hc : ∀ a b, c a b = 0 ↔ a = b) {l r : List α} {k : Nat} (hl : k < l.length) (hr : k < r.length) (h : l.take k = r.take k) (hn : c l[k] r[k] ≠ 0) : listCmp c l r = c l[k] r[k] := by
  rw [listCmp_drop hc k l r h (by omega) (by omega), List.drop_eq_getElem_cons hl, List.drop_eq_getElem_cons hr, listCmp, orI, if_neg hn]
theorem listCmp_all {α : Type} {c : α → α → Int} (hc : ∀ a b, c a b = 0 ↔ a = b) {l r : List α} (hn : l.length = r.length) (h : l.take l.length = r.take l.length) : listCmp c l r = 0 := by
  rw [List.take_length, hn, List.take_length] at h
  exact (listCmp_zero hc l r).2 h
/-- Longer lists are greater. -/
def sizeCmp {α : Type} (c : α → α → Int) (l r : List α) : Int := orI (cmpI (l.length : Int) (r.length : Int)) (listCmp c l r)
theorem sizeCmp_zero {α : Type} {c : α → α → Int} (hc : ∀ a b, c a b = 0 ↔ a = b) (l r : List α) : sizeCmp c l r = 0 ↔ l = r := by
  unfold sizeCmp
  rw [orI_zero, listCmp_zero hc, cmpI_zero]
  constructor
  · intro h; exact h.2
  · intro h; subst h; exact ⟨rfl, rfl⟩
theorem sizeCmp_len {α : Type} {c : α → α → Int} {l r : List α} (h : l.length ≠ r.length) : sizeCmp c l r = cmpI (l.length : Int) (r.length : Int) := by
  unfold sizeCmp orI
  rw [if_neg (fun e => h (by have := cmpI_zero.1 e; omega))]
theorem sizeCmp_same {α : Type} {c : α → α → Int} {l r : List α} (h : l.length = r.length) : sizeCmp c l r = listCmp c l r := by
  unfold sizeCmp orI
  rw [h, cmpI_self, if_pos rfl]
def atomsOrd (a b : List Int) : Int := sizeCmp cmpI a b
def monoOrd (a b : TrmMono) : Int := orI (atomsOrd a.atoms b.atoms) (cmpI a.coef b.coef)
def polOrd (a b : TrmPoly) : Int := sizeCmp monoOrd a.monos b.monos
theorem atomsOrd_zero (a b : List Int) : atomsOrd a b = 0 ↔ a = b := sizeCmp_zero (fun _ _ => cmpI_zero) a b
theorem monoOrd_zero (a b : TrmMono) : monoOrd a b = 0 ↔ a = b := by
  unfold monoOrd
  rw [orI_zero, atomsOrd_zero, cmpI_zero]
  cases a; cases b
  simp
  exact ⟨fun h => ⟨h.2, h.1⟩, fun h => ⟨h.2, h.1⟩⟩
theorem polOrd_zero (a b : TrmPoly) : polOrd a b = 0 ↔ a = b := by
  unfold polOrd
  rw [sizeCmp_zero monoOrd_zero]
  cases a; cases b
  simp
theorem polOrd_same (a b : TrmPoly) : (polOrd a b == 0) = decide (a = b) := by
  rw [Bool.eq_iff_iff]
  simp [polOrd_zero]

end Go.Proofs.Ytmbclopkopfngaa

namespace Go.Proofs.Ytmbclopkopfngaa
open Go.RowKit
set_option linter.unusedVariables false
set_option linter.unusedSimpArgs false

/-- What holds of all numbers below n. -/
def allB (n : Nat) (f : Nat → Bool) : Bool := (List.range n).all f
theorem allB_yes {n : Nat} {f : Nat → Bool} (h : ∀ j, j < n → f j = true) : allB n f = true := List.all_eq_true.2 fun j hj => h j (List.mem_range.1 hj)
theorem allB_no {n k : Nat} {f : Nat → Bool} (hk : k < n) (h : f k = false) : allB n f = false := by
  rw [← Bool.not_eq_true]
  intro q
  have := List.all_eq_true.1 q k (List.mem_range.2 hk)
  rw [h] at this
  cases this
theorem allB_at {n k : Nat} {f : Nat → Bool} (h : allB n f = true) (hk : k < n) : f k = true := List.all_eq_true.1 h k (List.mem_range.2 hk)
theorem allB_next {k : Nat} {f : Nat → Bool} (h : ∀ j, j < k → f j = true) (hk : f k = true) : ∀ j, j < k + 1 → f j = true := fun j hj => by
  by_cases e : j = k
  · subst e; exact hk
  · exact h j (by omega)
theorem allB_iff {n : Nat} {f : Nat → Bool} : allB n f = true ↔ ∀ j, j < n → f j = true := ⟨fun h j hj => allB_at h hj, allB_yes⟩
def gN (l : List Int) (k : Nat) : Int := (l[k]?).getD 0
theorem gN_at (l : List Int) (k : Nat) (h : k < l.length) : gN l k = l[k] := by simp [gN, List.getElem?_eq_getElem h]
def gM (l : List TrmMono) (k : Nat) : TrmMono := (l[k]?).getD ⟨0, []⟩
theorem gM_at (l : List TrmMono) (k : Nat) (h : k < l.length) : gM l k = l[k] := by simp [gM, List.getElem?_eq_getElem h]
/-! as the reference asks -/
def ascAtB (l : List Int) (k : Nat) : Bool := k == 0 || decide (gN l (k - 1) ≤ gN l k)
def atomAtB (l : List Int) (k : Nat) : Bool := inB (gN l k) 0 199 && ascAtB l k
def monoOkB (m : TrmMono) : Bool := inB m.coef 1 65535 && decide (m.atoms.length ≤ 4) && allB m.atoms.length (atomAtB m.atoms)
def lessAtB (l : List TrmMono) (k : Nat) : Bool := k == 0 || decide (atomsOrd (gM l (k - 1)).atoms (gM l k).atoms < 0)
def monoAtB (l : List TrmMono) (k : Nat) : Bool := monoOkB (gM l k) && lessAtB l k
def polOkB (p : TrmPoly) : Bool := decide (p.monos.length ≤ 12) && allB p.monos.length (monoAtB p.monos)
/-! as the program asks -/
def monoAtI (l : List TrmMono) (k : Nat) : Bool := inB (gM l k).coef 1 65535 && decide ((gM l k).atoms.length ≤ 4) && allB (gM l k).atoms.length (ascAtB (gM l k).atoms) && lessAtB l k
def monoUnderB (n : Int) (m : TrmMono) : Bool := allB m.atoms.length fun j => decide (gN m.atoms j < n)
def polUnderB (p : TrmPoly) (n : Int) : Bool := allB p.monos.length fun j => monoUnderB n (gM p.monos j)
def monoNegB (m : TrmMono) : Bool := decide (0 < m.atoms.length) && decide (gN m.atoms 0 < 0)
def polNoNegB (p : TrmPoly) : Bool := allB p.monos.length fun j => !monoNegB (gM p.monos j)
def polOkI (p : TrmPoly) : Bool := allB p.monos.length (monoAtI p.monos) && (decide (p.monos.length ≤ 12) && polUnderB p 200 && polNoNegB p)
theorem asc_low {l : List Int} (h : allB l.length (ascAtB l) = true) : ∀ k, k < l.length → gN l 0 ≤ gN l k
  | 0, _ => Int.le_refl _
  | k + 1, hk => by
    have h1 := asc_low h k (by omega)
    have h2 := allB_at h hk
    unfold ascAtB at h2
    simp at h2
    omega
theorem polOk_same (p : TrmPoly) : polOkI p = polOkB p := by
  rw [Bool.eq_iff_iff]
  unfold polOkI polOkB
  simp only [Bool.and_eq_true, decide_eq_true_eq, allB_iff]
  constructor
  · rintro ⟨h1, ⟨h2, h3⟩, h4⟩
    refine ⟨h2, fun j hj => ?_⟩
    have q1 := h1 j hj
    have q3 := allB_at h3 hj
    have q4 := allB_at h4 hj
    unfold monoAtI at q1
    unfold monoAtB monoOkB
    simp only [Bool.and_eq_true, decide_eq_true_eq] at q1 ⊢
    refine ⟨⟨q1.1.1, allB_yes fun i hi => ?_⟩, q1.2⟩
    have a1 := asc_low q1.1.2 i hi
    have a2 := allB_at q1.1.2 hi
    have a3 := allB_at q3 hi
    unfold monoNegB at q4
    unfold atomAtB inB
    simp at a3 q4 ⊢
    have a4 : 0 ≤ gN (gM p.monos j).atoms 0 := by
      rcases q4 with h | h
      · rw [h] at hi; simp at hi
      · exact h
    exact ⟨⟨by omega, by omega⟩, a2⟩
  · rintro ⟨h2, h1⟩
    refine ⟨fun j hj => ?_, ⟨h2, allB_yes fun j hj => ?_⟩, allB_yes fun j hj => ?_⟩
    all_goals
      have q1 := h1 j hj
      unfold monoAtB monoOkB at q1
      simp only [Bool.and_eq_true, decide_eq_true_eq] at q1
    · unfold monoAtI
      simp only [Bool.and_eq_true, decide_eq_true_eq]
      refine ⟨⟨q1.1.1, allB_yes fun i hi => ?_⟩, q1.2⟩
      have a := allB_at q1.1.2 hi
      unfold atomAtB at a
      simp only [Bool.and_eq_true] at a
      exact a.2
    · refine allB_yes fun i hi => ?_
      have a := allB_at q1.1.2 hi
      unfold atomAtB inB at a
      simp at a ⊢
      omega
    · unfold monoNegB
      by_cases h0 : 0 < (gM p.monos j).atoms.length
      · have a := allB_at q1.1.2 h0
        unfold atomAtB inB at a
        simp at a ⊢
        omega
      · simp [h0]
/-- The word that a sum is. -/
def polNum (p : TrmPoly) : Int := if polOkB p && decide (p.monos.length = 1) && decide ((gM p.monos 0).atoms.length = 0) then (gM p.monos 0).coef else 0
def polNumOk (p : TrmPoly) : Bool := polOkB p && (decide (p.monos.length = 0) || (decide (p.monos.length = 1) && decide ((gM p.monos 0).atoms.length = 0)))
theorem polNum_word (p : TrmPoly) : 0 ≤ polNum p ∧ polNum p < 65536 := by
  unfold polNum
  split
  · rename_i h
    simp only [Bool.and_eq_true, decide_eq_true_eq] at h
    have hp := h.1.1
    unfold polOkB at hp
    simp only [Bool.and_eq_true] at hp
    have := allB_at hp.2 (show 0 < p.monos.length by omega)
    unfold monoAtB monoOkB inB at this
    simp at this
    omega
  · omega

end Go.Proofs.Ytmbclopkopfngaa
