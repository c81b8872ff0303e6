/-
  Ty, WordPure, MachPure, Words, ConstW
-/
import Derived.Test.YtmbclopkopfngaaWLib
import Derived.Test.YtmbclopkopfngaaWRegLib
import Derived.Test.YtmbclopkopfngaaRows
import Derived.Deep.DeepCutAuto
import Derived.Laws.BitsAllLaws
import Derived.Laws.BitsLemmas
namespace Go.Proofs.Ytmbclopkopfngaa
open Go.RowKit

set_option linter.unusedVariables false
set_option linter.unusedSimpArgs false
set_option maxRecDepth 100000

theorem at_Int {w : World} {S : Nat → Prop} {A : Option Addr} {n c : Nat} {l : List Int} (h : Sl w S (.slice A n c) l) {i : Nat} (hi : i < l.length) :
    ∃ (b off : Nat), A = some ⟨b, off, none⟩ ∧ S b ∧ Fits l[i] ∧ w.cell? ⟨b, off + i, none⟩ = some (.int .i64 (l[i])) := by
  obtain ⟨A', c', h1, _, _, _, h4⟩ := h
  injection h1 with e1 e2 e3
  subst e1
  obtain ⟨b, off, e, hb, hh⟩ := h4 (by intro e; simp [e] at hi)
  obtain ⟨vs, hv, hc⟩ := hh i _ (List.getElem?_eq_getElem hi)
  obtain ⟨rfl, hk⟩ := hv
  exact ⟨b, off, e, hb, hk, by simpa [Rep.sz] using hc 0 _ rfl⟩

theorem at_UInt8 {w : World} {S : Nat → Prop} {A : Option Addr} {n c : Nat} {l : List UInt8} (h : Sl w S (.slice A n c) l) {i : Nat} (hi : i < l.length) :
    ∃ (b off : Nat), A = some ⟨b, off, none⟩ ∧ S b ∧ w.cell? ⟨b, off + i, none⟩ = some (.int .u8 (l[i].toNat : Int)) := by
  obtain ⟨A', c', h1, _, _, _, h4⟩ := h
  injection h1 with e1 e2 e3
  subst e1
  obtain ⟨b, off, e, hb, hh⟩ := h4 (by intro e; simp [e] at hi)
  obtain ⟨vs, hv, hc⟩ := hh i _ (List.getElem?_eq_getElem hi)
  obtain rfl := hv
  exact ⟨b, off, e, hb, by simpa [Rep.sz] using hc 0 _ rfl⟩

structure TrmMono where
  coef : Int
  atoms : List Int
  deriving DecidableEq

/-- The numbers fit. -/
def TrmMono.Ok (o : TrmMono) : Prop := Fits o.coef

instance : Rep TrmMono where
  sz := 2
  rep w S vs o := ∃ v1 : Value, vs = [.int .i64 o.coef, v1] ∧ o.Ok ∧ Sl w S v1 o.atoms
  len h := by obtain ⟨v1, rfl, hk, h1⟩ := h; rfl
  keep h hc hs := by obtain ⟨v1, rfl, hk, h1⟩ := h; exact ⟨v1, rfl, hk, h1.keep hc hs⟩

instance : Own TrmMono where
  own w vs o F := ∃ (v1 : Value), vs = [.int .i64 o.coef, v1] ∧ o.Ok ∧ OwnSl w v1 o.atoms F
  asRep h := by obtain ⟨v1, rfl, hk, h1⟩ := h; exact ⟨v1, rfl, hk, h1.sl.keep (fun _ _ _ => rfl) (fun b hb => by simp [hb])⟩
  stay h hF := by obtain ⟨v1, rfl, hk, h1⟩ := h; exact ⟨v1, rfl, hk, h1.stay (fun b hb => hF b (by simp [hb]))⟩

theorem at_TrmMono {w : World} {S : Nat → Prop} {A : Option Addr} {n c : Nat} {l : List TrmMono} (h : Sl w S (.slice A n c) l) {i : Nat} (hi : i < l.length) :
    ∃ (b off : Nat) (v1 : Value), A = some ⟨b, off, none⟩ ∧ S b ∧ l[i].Ok ∧ Sl w S v1 l[i].atoms ∧ w.cell? ⟨b, off + i * 2, none⟩ = some (.int .i64 (l[i].coef)) ∧ w.cell? ⟨b, off + i * 2 + 1, none⟩ = some (v1) := by
  obtain ⟨A', c', h1, _, _, _, h4⟩ := h
  injection h1 with e1 e2 e3
  subst e1
  obtain ⟨b, off, e, hb, hh⟩ := h4 (by intro e; simp [e] at hi)
  obtain ⟨vs, hv, hc⟩ := hh i _ (List.getElem?_eq_getElem hi)
  obtain ⟨v1, rfl, hk, h1⟩ := hv
  exact ⟨b, off, v1, e, hb, hk, h1, hc 0 _ rfl, hc 1 _ rfl⟩

structure TrmPoly where
  monos : List TrmMono
  deriving DecidableEq

/-- The numbers fit. -/
def TrmPoly.Ok (o : TrmPoly) : Prop := True

instance : Rep TrmPoly where
  sz := 1
  rep w S vs o := ∃ v1 : Value, vs = [v1] ∧ o.Ok ∧ Sl w S v1 o.monos
  len h := by obtain ⟨v1, rfl, hk, h1⟩ := h; rfl
  keep h hc hs := by obtain ⟨v1, rfl, hk, h1⟩ := h; exact ⟨v1, rfl, hk, h1.keep hc hs⟩

instance : Own TrmPoly where
  own w vs o F := ∃ (v1 : Value), vs = [v1] ∧ o.Ok ∧ OwnSl w v1 o.monos F
  asRep h := by obtain ⟨v1, rfl, hk, h1⟩ := h; exact ⟨v1, rfl, hk, h1.sl.keep (fun _ _ _ => rfl) (fun b hb => by simp [hb])⟩
  stay h hF := by obtain ⟨v1, rfl, hk, h1⟩ := h; exact ⟨v1, rfl, hk, h1.stay (fun b hb => hF b (by simp [hb]))⟩

structure TabAtom where
  kind : Int
  k : Int
  x : TrmPoly
  y : TrmPoly
  deriving DecidableEq

/-- The numbers fit. -/
def TabAtom.Ok (o : TabAtom) : Prop := Fits o.kind ∧ Fits o.k

instance : Rep TabAtom where
  sz := 4
  rep w S vs o := ∃ v1 v2 : Value, vs = [.int .i64 o.kind, .int .i64 o.k, v1, v2] ∧ o.Ok ∧ Sl w S v1 o.x.monos ∧ Sl w S v2 o.y.monos
  len h := by obtain ⟨v1, v2, rfl, hk, h1, h2⟩ := h; rfl
  keep h hc hs := by obtain ⟨v1, v2, rfl, hk, h1, h2⟩ := h; exact ⟨v1, v2, rfl, hk, h1.keep hc hs, h2.keep hc hs⟩

instance : Own TabAtom where
  own w vs o F := ∃ (v1 v2 : Value) (F1 F2 : List Nat), vs = [.int .i64 o.kind, .int .i64 o.k, v1, v2] ∧ o.Ok ∧ OwnSl w v1 o.x.monos F1 ∧ OwnSl w v2 o.y.monos F2 ∧ F = F1 ++ F2
  asRep h := by obtain ⟨v1, v2, F1, F2, rfl, hk, h1, h2, rfl⟩ := h; exact ⟨v1, v2, rfl, hk, h1.sl.keep (fun _ _ _ => rfl) (fun b hb => by simp [hb]), h2.sl.keep (fun _ _ _ => rfl) (fun b hb => by simp [hb])⟩
  stay h hF := by obtain ⟨v1, v2, F1, F2, rfl, hk, h1, h2, rfl⟩ := h; exact ⟨v1, v2, F1, F2, rfl, hk, h1.stay (fun b hb => hF b (by simp [hb])), h2.stay (fun b hb => hF b (by simp [hb])), rfl⟩

theorem at_TabAtom {w : World} {S : Nat → Prop} {A : Option Addr} {n c : Nat} {l : List TabAtom} (h : Sl w S (.slice A n c) l) {i : Nat} (hi : i < l.length) :
    ∃ (b off : Nat) (v1 v2 : Value), A = some ⟨b, off, none⟩ ∧ S b ∧ l[i].Ok ∧ Sl w S v1 l[i].x.monos ∧ Sl w S v2 l[i].y.monos ∧ w.cell? ⟨b, off + i * 4, none⟩ = some (.int .i64 (l[i].kind)) ∧ w.cell? ⟨b, off + i * 4 + 1, none⟩ = some (.int .i64 (l[i].k)) ∧ w.cell? ⟨b, off + i * 4 + 2, none⟩ = some (v1) ∧ w.cell? ⟨b, off + i * 4 + 3, none⟩ = some (v2) := by
  obtain ⟨A', c', h1, _, _, _, h4⟩ := h
  injection h1 with e1 e2 e3
  subst e1
  obtain ⟨b, off, e, hb, hh⟩ := h4 (by intro e; simp [e] at hi)
  obtain ⟨vs, hv, hc⟩ := hh i _ (List.getElem?_eq_getElem hi)
  obtain ⟨v1, v2, rfl, hk, h1, h2⟩ := hv
  exact ⟨b, off, v1, v2, e, hb, hk, h1, h2, hc 0 _ rfl, hc 1 _ rfl, hc 2 _ rfl, hc 3 _ rfl⟩

structure TabTab where
  atoms : List TabAtom
  deriving DecidableEq

/-- The numbers fit. -/
def TabTab.Ok (o : TabTab) : Prop := True

instance : Rep TabTab where
  sz := 1
  rep w S vs o := ∃ v1 : Value, vs = [v1] ∧ o.Ok ∧ Sl w S v1 o.atoms
  len h := by obtain ⟨v1, rfl, hk, h1⟩ := h; rfl
  keep h hc hs := by obtain ⟨v1, rfl, hk, h1⟩ := h; exact ⟨v1, rfl, hk, h1.keep hc hs⟩

instance : Own TabTab where
  own w vs o F := ∃ (v1 : Value), vs = [v1] ∧ o.Ok ∧ OwnSl w v1 o.atoms F
  asRep h := by obtain ⟨v1, rfl, hk, h1⟩ := h; exact ⟨v1, rfl, hk, h1.sl.keep (fun _ _ _ => rfl) (fun b hb => by simp [hb])⟩
  stay h hF := by obtain ⟨v1, rfl, hk, h1⟩ := h; exact ⟨v1, rfl, hk, h1.stay (fun b hb => hF b (by simp [hb]))⟩

instance : Bulk TrmMono := ⟨fun o => Bulk.blk o.atoms⟩

instance : Bulk TrmPoly := ⟨fun o => Bulk.blk o.monos⟩

instance : Bulk TabAtom := ⟨fun o => Bulk.blk o.x + Bulk.blk o.y⟩

instance : Bulk TabTab := ⟨fun o => Bulk.blk o.atoms⟩

end Go.Proofs.Ytmbclopkopfngaa

namespace Go.Proofs.Ytmbclopkopfngaa
open Go.RowKit

set_option linter.unusedVariables false
set_option linter.unusedSimpArgs false
set_option maxRecDepth 100000

/-- A number in a range. -/
def inB (n lo hi : Int) : Bool := decide (lo ≤ n) && decide (n ≤ hi)
def wordB (n : Int) : Bool := decide (0 ≤ n) && decide (n < 65536)
theorem inB_yes {n lo hi : Int} (h1 : lo ≤ n) (h2 : n ≤ hi) : inB n lo hi = true := by simp [inB, h1, h2]
theorem inB_low {n lo hi : Int} (h1 : n < lo) : inB n lo hi = false := by unfold inB; rw [decide_eq_false (by omega)]; rfl
theorem inB_high {n lo hi : Int} (h1 : hi < n) : inB n lo hi = false := by unfold inB; rw [decide_eq_false (p := n ≤ hi) (by omega)]; simp
theorem wordB_yes {n : Int} (h1 : 0 ≤ n) (h2 : n < 65536) : wordB n = true := by simp [wordB, h1, h2]
theorem wordB_low {n : Int} (h1 : n < 0) : wordB n = false := by unfold wordB; rw [decide_eq_false (by omega)]; rfl
theorem wordB_high {n : Int} (h1 : 65536 ≤ n) : wordB n = false := by unfold wordB; rw [decide_eq_false (p := n < 65536) (by omega)]; simp
theorem wordB_iff {n : Int} : wordB n = true ↔ 0 ≤ n ∧ n < 65536 := by simp [wordB]
theorem ret_bool {a b : Bool} (h : a = b) : Ending.returned (.bool a) = .returned (.bool b) := by rw [h]

end Go.Proofs.Ytmbclopkopfngaa

namespace Go.Proofs.Ytmbclopkopfngaa
open Go.RowKit
set_option linter.unusedVariables false
set_option linter.unusedSimpArgs false

def wrdDo (op a b : Int) : Int :=
  if wordB a && wordB b then
    if op = 1 then (a + b) % 65536 else if op = 2 then (a - b) % 65536 else if op = 3 then a * b % 65536
    else if op = 4 then ((a.toNat &&& b.toNat : Nat) : Int) else if op = 5 then ((a.toNat ^^^ b.toNat : Nat) : Int) else 0
  else 0
theorem wrdDo_word (op a b : Int) : wordB (wrdDo op a b) = true := by
  unfold wrdDo
  split
  · rename_i h
    simp [wordB] at h
    have ha : a.toNat < 2 ^ 16 := by omega
    have hb : b.toNat < 2 ^ 16 := by omega
    repeat' split
    all_goals refine wordB_yes ?_ ?_
    all_goals first | omega | (have := Nat.and_lt_two_pow a.toNat hb; omega) | (have := Nat.xor_lt_two_pow ha hb; omega)
  · exact wordB_yes (by omega) (by omega)

end Go.Proofs.Ytmbclopkopfngaa

namespace Go.Proofs.Ytmbclopkopfngaa
open Go.RowKit

set_option linter.unusedVariables false
set_option linter.unusedSimpArgs false
set_option maxRecDepth 100000

theorem l1In_any (n lo hi : Int) (w : World) : Calls Try.prog 68 #[.int .i64 n, .int .i64 lo, .int .i64 hi] w fun e w' => e = .returned (.bool (inB n lo hi)) ∧ w = w' := by
  by_cases h1 : lo ≤ n
  · by_cases h2 : n ≤ hi
    · have H := hide (inB_yes h1 h2)
      go_enter Try.func68, Try.ntmps68
      go_wp2
      go_ret
      exact ⟨ret_bool H.out.symm, rfl⟩
    · have H := hide (inB_high (lo := lo) (show hi < n by omega))
      have h3 : hi < n := by omega
      go_enter Try.func68, Try.ntmps68
      go_wp2
      go_ret
      exact ⟨ret_bool H.out.symm, rfl⟩
  · have H := hide (inB_low (hi := hi) (show n < lo by omega))
    have h3 : n < lo := by omega
    go_enter Try.func68, Try.ntmps68
    go_wp2
    go_ret
    exact ⟨ret_bool H.out.symm, rfl⟩

theorem in_any (n lo hi : Int) (w : World) : Calls Try.prog 59 #[.int .i64 n, .int .i64 lo, .int .i64 hi] w fun e w' => e = .returned (.bool (inB n lo hi)) ∧ w = w' := by
  by_cases h1 : lo ≤ n
  · by_cases h2 : n ≤ hi
    · have H := hide (inB_yes h1 h2)
      go_enter Try.func59, Try.ntmps59
      go_wp2
      go_ret
      exact ⟨ret_bool H.out.symm, rfl⟩
    · have H := hide (inB_high (lo := lo) (show hi < n by omega))
      have h3 : hi < n := by omega
      go_enter Try.func59, Try.ntmps59
      go_wp2
      go_ret
      exact ⟨ret_bool H.out.symm, rfl⟩
  · have H := hide (inB_low (hi := hi) (show n < lo by omega))
    have h3 : n < lo := by omega
    go_enter Try.func59, Try.ntmps59
    go_wp2
    go_ret
    exact ⟨ret_bool H.out.symm, rfl⟩

theorem isReg_any (n : Int) (w : World) : Calls Try.prog 62 #[.int .i64 n] w fun e w' => e = .returned (.bool (inB n 0 3)) ∧ w = w' := by
  go_enter Try.func62, Try.ntmps62
  go_wp2_with (go_at_call 59; refine (in_any _ _ _ _).mono ?_; rintro e w' ⟨rfl, rfl⟩)
  go_ret
  exact ⟨rfl, rfl⟩

theorem isOp_any (n : Int) (w : World) : Calls Try.prog 60 #[.int .i64 n] w fun e w' => e = .returned (.bool (inB n 1 5)) ∧ w = w' := by
  go_enter Try.func60, Try.ntmps60
  go_wp2_with (go_at_call 59; refine (in_any _ _ _ _).mono ?_; rintro e w' ⟨rfl, rfl⟩)
  go_ret
  exact ⟨rfl, rfl⟩

theorem implWrdOk_any (n : Int) (w : World) : Calls Try.prog 32 #[.int .i64 n] w fun e w' => e = .returned (.bool (inB n 0 65535)) ∧ w = w' := by
  go_enter Try.func32, Try.ntmps32
  go_wp2_with (go_at_call 59; refine (in_any _ _ _ _).mono ?_; rintro e w' ⟨rfl, rfl⟩)
  go_ret
  exact ⟨rfl, rfl⟩

theorem specWrdOk_any (n : Int) (w : World) : Calls Try.prog 46 #[.int .i64 n] w fun e w' => e = .returned (.bool (wordB n)) ∧ w = w' := by
  by_cases h1 : 0 ≤ n
  · by_cases h2 : n < 65536
    · have H := hide (wordB_yes h1 h2)
      go_enter Try.func46, Try.ntmps46
      go_wp2
      go_ret
      exact ⟨ret_bool H.out.symm, rfl⟩
    · have H := hide (wordB_high (show 65536 ≤ n by omega))
      have h3 : 65536 ≤ n := by omega
      go_enter Try.func46, Try.ntmps46
      go_wp2
      go_ret
      exact ⟨ret_bool H.out.symm, rfl⟩
  · have H := hide (wordB_low (show n < 0 by omega))
    have h3 : n < 0 := by omega
    go_enter Try.func46, Try.ntmps46
    go_wp2
    go_ret
    exact ⟨ret_bool H.out.symm, rfl⟩

end Go.Proofs.Ytmbclopkopfngaa

namespace Go.Proofs.Ytmbclopkopfngaa
open Go.RowKit

set_option linter.unusedVariables false
set_option linter.unusedSimpArgs false
set_option maxRecDepth 100000

theorem ofInt_i64 (a : Nat) (ha : a < 9223372036854775808) : (BitVec.ofInt 64 (a : Int)).toNat = a := by
  rw [BitVec.ofInt_natCast, BitVec.toNat_ofNat]; exact Nat.mod_eq_of_lt (by omega)
theorem i64_and_nat (a b : Nat) (ha : a < 9223372036854775808) (hb : b < 9223372036854775808) : bits .and .i64 (a : Int) (b : Int) = ((a &&& b : Nat) : Int) := by
  have hx : a &&& b < 2 ^ 63 := Nat.and_lt_two_pow _ (by omega)
  show IntKind.i64.wrap ((BitVec.ofInt 64 (a : Int) &&& BitVec.ofInt 64 (b : Int)).toNat : Int) = _
  rw [BitVec.toNat_and, ofInt_i64 a ha, ofInt_i64 b hb, IntKind.wrap_i64]
  omega
theorem i64_xor_nat (a b : Nat) (ha : a < 9223372036854775808) (hb : b < 9223372036854775808) : bits .xor .i64 (a : Int) (b : Int) = ((a ^^^ b : Nat) : Int) := by
  have hx : a ^^^ b < 2 ^ 63 := Nat.xor_lt_two_pow (by omega) (by omega)
  show IntKind.i64.wrap ((BitVec.ofInt 64 (a : Int) ^^^ BitVec.ofInt 64 (b : Int)).toNat : Int) = _
  rw [BitVec.toNat_xor, ofInt_i64 a ha, ofInt_i64 b hb, IntKind.wrap_i64]
  omega
theorem i64_and_int (a b : Int) (ha0 : 0 ≤ a) (ha : a < 65536) (hb0 : 0 ≤ b) (hb : b < 65536) : bits .and .i64 a b = ((a.toNat &&& b.toNat : Nat) : Int) := by
  have := i64_and_nat a.toNat b.toNat (by omega) (by omega)
  rwa [Int.toNat_of_nonneg ha0, Int.toNat_of_nonneg hb0] at this
theorem i64_xor_int (a b : Int) (ha0 : 0 ≤ a) (ha : a < 65536) (hb0 : 0 ≤ b) (hb : b < 65536) : bits .xor .i64 a b = ((a.toNat ^^^ b.toNat : Nat) : Int) := by
  have := i64_xor_nat a.toNat b.toNat (by omega) (by omega)
  rwa [Int.toNat_of_nonneg ha0, Int.toNat_of_nonneg hb0] at this
theorem i64_wrap (n : Int) : bits .and .i64 n 65535 = n % 65536 := by
  show IntKind.i64.wrap ((BitVec.ofInt 64 n &&& BitVec.ofInt 64 65535).toNat : Int) = _
  rw [BitVec.toNat_and, show (BitVec.ofInt 64 65535).toNat = 2 ^ 16 - 1 from by decide, Nat.and_two_pow_sub_one_eq_mod, BitVec.toNat_ofInt, IntKind.wrap_i64]
  omega
theorem tmodw (n : Int) : n.tmod 65536 = if 0 ≤ n then n % 65536 else -((-n) % 65536) := by
  split
  · rename_i h; exact Int.tmod_eq_emod_of_nonneg h
  · have := Int.neg_tmod (-n) 65536
    rw [Int.neg_neg] at this
    rw [this, Int.tmod_eq_emod_of_nonneg (by omega)]

theorem implWrap_any (n : Int) (w : World) : Calls Try.prog 66 #[.int .i64 n] w fun e w' => e = .returned (.int .i64 (n % 65536)) ∧ w = w' := by
  have HB := hide (i64_wrap n)
  go_enter Try.func66, Try.ntmps66
  go_wp2
  go_ret
  exact ⟨by rw [← HB.out]; rfl, rfl⟩

theorem specWrap_any (n : Int) (h0 : -4294967296 ≤ n) (h1 : n ≤ 4294967296) (w : World) : Calls Try.prog 47 #[.int .i64 n] w fun e w' => e = .returned (.int .i64 (n % 65536)) ∧ w = w' := by
  have ht := tmodw n
  by_cases hs : 0 ≤ n.tmod 65536
  · have H := hide (show n.tmod 65536 = n % 65536 by split at ht <;> omega)
    have hb : n.tmod 65536 < 65536 := by split at ht <;> omega
    clear ht
    go_enter Try.func47, Try.ntmps47
    go_wp2
    go_ret
    exact ⟨by rw [← H.out]; rfl, rfl⟩
  · have H := hide (show n.tmod 65536 + 65536 = n % 65536 by split at ht <;> omega)
    have hb : -65536 < n.tmod 65536 := by split at ht <;> omega
    clear ht
    go_enter Try.func47, Try.ntmps47
    go_wp2
    go_ret
    exact ⟨by rw [← H.out]; rfl, rfl⟩

theorem implDo1 (a b : Int) (ha0 : 0 ≤ a) (ha1 : a < 65536) (hb0 : 0 ≤ b) (hb1 : b < 65536) (w : World) : Calls Try.prog 39 #[.int .i64 1, .int .i64 a, .int .i64 b] w fun e w' => e = .returned (.int .i64 (wrdDo 1 a b)) ∧ w = w' := by
  have HV := hide (show wrdDo 1 a b = (a + b) % 65536 by unfold wrdDo; rw [wordB_yes ha0 ha1, wordB_yes hb0 hb1]; rfl)
  have qa : inB a 0 65535 = true := by simp [inB, wordB]; omega
  have qb : inB b 0 65535 = true := by simp [inB, wordB]; omega
  go_enter Try.func39, Try.ntmps39
  go_wp2_with (first | (go_at_call 32; refine (implWrdOk_any _ _).mono ?_; rintro e w' ⟨rfl, rfl⟩) | (go_at_call 66; refine (implWrap_any _ _).mono ?_; rintro e w' ⟨rfl, rfl⟩))
  go_ret
  exact ⟨by rw [HV.out]; rfl, rfl⟩

theorem implDo2 (a b : Int) (ha0 : 0 ≤ a) (ha1 : a < 65536) (hb0 : 0 ≤ b) (hb1 : b < 65536) (w : World) : Calls Try.prog 39 #[.int .i64 2, .int .i64 a, .int .i64 b] w fun e w' => e = .returned (.int .i64 (wrdDo 2 a b)) ∧ w = w' := by
  have HV := hide (show wrdDo 2 a b = (a - b) % 65536 by unfold wrdDo; rw [wordB_yes ha0 ha1, wordB_yes hb0 hb1]; rfl)
  have qa : inB a 0 65535 = true := by simp [inB, wordB]; omega
  have qb : inB b 0 65535 = true := by simp [inB, wordB]; omega
  go_enter Try.func39, Try.ntmps39
  go_wp2_with (first | (go_at_call 32; refine (implWrdOk_any _ _).mono ?_; rintro e w' ⟨rfl, rfl⟩) | (go_at_call 66; refine (implWrap_any _ _).mono ?_; rintro e w' ⟨rfl, rfl⟩))
  go_ret
  exact ⟨by rw [HV.out]; rfl, rfl⟩

theorem implDo3 (a b : Int) (ha0 : 0 ≤ a) (ha1 : a < 65536) (hb0 : 0 ≤ b) (hb1 : b < 65536) (w : World) : Calls Try.prog 39 #[.int .i64 3, .int .i64 a, .int .i64 b] w fun e w' => e = .returned (.int .i64 (wrdDo 3 a b)) ∧ w = w' := by
  have HV := hide (show wrdDo 3 a b = a * b % 65536 by unfold wrdDo; rw [wordB_yes ha0 ha1, wordB_yes hb0 hb1]; rfl)
  have qa : inB a 0 65535 = true := by simp [inB, wordB]; omega
  have qb : inB b 0 65535 = true := by simp [inB, wordB]; omega
  have hm0 : 0 ≤ a * b := Int.mul_nonneg ha0 hb0
  have hm1 : a * b < 4294967296 := by
    have := Int.mul_lt_mul' (show a ≤ 65536 by omega) hb1 hb0 (by omega)
    omega
  go_enter Try.func39, Try.ntmps39
  go_wp2_with (first | (go_at_call 32; refine (implWrdOk_any _ _).mono ?_; rintro e w' ⟨rfl, rfl⟩) | (go_at_call 66; refine (implWrap_any _ _).mono ?_; rintro e w' ⟨rfl, rfl⟩))
  go_ret
  exact ⟨by rw [HV.out]; rfl, rfl⟩

theorem implDo4 (a b : Int) (ha0 : 0 ≤ a) (ha1 : a < 65536) (hb0 : 0 ≤ b) (hb1 : b < 65536) (w : World) : Calls Try.prog 39 #[.int .i64 4, .int .i64 a, .int .i64 b] w fun e w' => e = .returned (.int .i64 (wrdDo 4 a b)) ∧ w = w' := by
  have HV := hide (show wrdDo 4 a b = ((a.toNat &&& b.toNat : Nat) : Int) by unfold wrdDo; rw [wordB_yes ha0 ha1, wordB_yes hb0 hb1]; rfl)
  have qa : inB a 0 65535 = true := by simp [inB, wordB]; omega
  have qb : inB b 0 65535 = true := by simp [inB, wordB]; omega
  have HB := hide (i64_and_int a b ha0 ha1 hb0 hb1)
  go_enter Try.func39, Try.ntmps39
  go_wp2_with (first | (go_at_call 32; refine (implWrdOk_any _ _).mono ?_; rintro e w' ⟨rfl, rfl⟩) | (go_at_call 66; refine (implWrap_any _ _).mono ?_; rintro e w' ⟨rfl, rfl⟩))
  go_ret
  exact ⟨by rw [HV.out, ← HB.out]; rfl, rfl⟩

theorem implDo5 (a b : Int) (ha0 : 0 ≤ a) (ha1 : a < 65536) (hb0 : 0 ≤ b) (hb1 : b < 65536) (w : World) : Calls Try.prog 39 #[.int .i64 5, .int .i64 a, .int .i64 b] w fun e w' => e = .returned (.int .i64 (wrdDo 5 a b)) ∧ w = w' := by
  have HV := hide (show wrdDo 5 a b = ((a.toNat ^^^ b.toNat : Nat) : Int) by unfold wrdDo; rw [wordB_yes ha0 ha1, wordB_yes hb0 hb1]; rfl)
  have qa : inB a 0 65535 = true := by simp [inB, wordB]; omega
  have qb : inB b 0 65535 = true := by simp [inB, wordB]; omega
  have HB := hide (i64_xor_int a b ha0 ha1 hb0 hb1)
  go_enter Try.func39, Try.ntmps39
  go_wp2_with (first | (go_at_call 32; refine (implWrdOk_any _ _).mono ?_; rintro e w' ⟨rfl, rfl⟩) | (go_at_call 66; refine (implWrap_any _ _).mono ?_; rintro e w' ⟨rfl, rfl⟩))
  go_ret
  exact ⟨by rw [HV.out, ← HB.out]; rfl, rfl⟩

theorem implWrdDo_any (op a b : Int) (w : World) (ho : 1 ≤ op ∧ op ≤ 5) (ha : wordB a = true) (hb : wordB b = true) : Calls Try.prog 39 #[.int .i64 op, .int .i64 a, .int .i64 b] w fun e w' => e = .returned (.int .i64 (wrdDo op a b)) ∧ w = w' := by
  simp [wordB] at ha hb
  have hc : op = 1 ∨ op = 2 ∨ op = 3 ∨ op = 4 ∨ op = 5 := by omega
  rcases hc with rfl | rfl | rfl | rfl | rfl
  · exact implDo1 a b ha.1 ha.2 hb.1 hb.2 w
  · exact implDo2 a b ha.1 ha.2 hb.1 hb.2 w
  · exact implDo3 a b ha.1 ha.2 hb.1 hb.2 w
  · exact implDo4 a b ha.1 ha.2 hb.1 hb.2 w
  · exact implDo5 a b ha.1 ha.2 hb.1 hb.2 w

theorem specDo1 (a b : Int) (ha0 : 0 ≤ a) (ha1 : a < 65536) (hb0 : 0 ≤ b) (hb1 : b < 65536) (w : World) : Calls Try.prog 17 #[.int .i64 1, .int .i64 a, .int .i64 b] w fun e w' => e = .returned (.int .i64 (wrdDo 1 a b)) ∧ w = w' := by
  have HV := hide (show wrdDo 1 a b = (a + b) % 65536 by unfold wrdDo; rw [wordB_yes ha0 ha1, wordB_yes hb0 hb1]; rfl)
  have qa : wordB a = true := by simp [inB, wordB]; omega
  have qb : wordB b = true := by simp [inB, wordB]; omega
  go_enter Try.func17, Try.ntmps17
  go_wp2_with (first | (go_at_call 46; refine (specWrdOk_any _ _).mono ?_; rintro e w' ⟨rfl, rfl⟩) | (go_at_call 47; refine (specWrap_any _ (by omega) (by omega) _).mono ?_; rintro e w' ⟨rfl, rfl⟩))
  go_ret
  exact ⟨by rw [HV.out]; rfl, rfl⟩

theorem specDo2 (a b : Int) (ha0 : 0 ≤ a) (ha1 : a < 65536) (hb0 : 0 ≤ b) (hb1 : b < 65536) (w : World) : Calls Try.prog 17 #[.int .i64 2, .int .i64 a, .int .i64 b] w fun e w' => e = .returned (.int .i64 (wrdDo 2 a b)) ∧ w = w' := by
  have HV := hide (show wrdDo 2 a b = (a - b) % 65536 by unfold wrdDo; rw [wordB_yes ha0 ha1, wordB_yes hb0 hb1]; rfl)
  have qa : wordB a = true := by simp [inB, wordB]; omega
  have qb : wordB b = true := by simp [inB, wordB]; omega
  go_enter Try.func17, Try.ntmps17
  go_wp2_with (first | (go_at_call 46; refine (specWrdOk_any _ _).mono ?_; rintro e w' ⟨rfl, rfl⟩) | (go_at_call 47; refine (specWrap_any _ (by omega) (by omega) _).mono ?_; rintro e w' ⟨rfl, rfl⟩))
  go_ret
  exact ⟨by rw [HV.out]; rfl, rfl⟩

theorem specDo3 (a b : Int) (ha0 : 0 ≤ a) (ha1 : a < 65536) (hb0 : 0 ≤ b) (hb1 : b < 65536) (w : World) : Calls Try.prog 17 #[.int .i64 3, .int .i64 a, .int .i64 b] w fun e w' => e = .returned (.int .i64 (wrdDo 3 a b)) ∧ w = w' := by
  have HV := hide (show wrdDo 3 a b = a * b % 65536 by unfold wrdDo; rw [wordB_yes ha0 ha1, wordB_yes hb0 hb1]; rfl)
  have qa : wordB a = true := by simp [inB, wordB]; omega
  have qb : wordB b = true := by simp [inB, wordB]; omega
  have hm0 : 0 ≤ a * b := Int.mul_nonneg ha0 hb0
  have hm1 : a * b < 4294967296 := by
    have := Int.mul_lt_mul' (show a ≤ 65536 by omega) hb1 hb0 (by omega)
    omega
  go_enter Try.func17, Try.ntmps17
  go_wp2_with (first | (go_at_call 46; refine (specWrdOk_any _ _).mono ?_; rintro e w' ⟨rfl, rfl⟩) | (go_at_call 47; refine (specWrap_any _ (by omega) (by omega) _).mono ?_; rintro e w' ⟨rfl, rfl⟩))
  go_ret
  exact ⟨by rw [HV.out]; rfl, rfl⟩

theorem specDo4 (a b : Int) (ha0 : 0 ≤ a) (ha1 : a < 65536) (hb0 : 0 ≤ b) (hb1 : b < 65536) (w : World) : Calls Try.prog 17 #[.int .i64 4, .int .i64 a, .int .i64 b] w fun e w' => e = .returned (.int .i64 (wrdDo 4 a b)) ∧ w = w' := by
  have HV := hide (show wrdDo 4 a b = ((a.toNat &&& b.toNat : Nat) : Int) by unfold wrdDo; rw [wordB_yes ha0 ha1, wordB_yes hb0 hb1]; rfl)
  have qa : wordB a = true := by simp [inB, wordB]; omega
  have qb : wordB b = true := by simp [inB, wordB]; omega
  have HB := hide (i64_and_int a b ha0 ha1 hb0 hb1)
  go_enter Try.func17, Try.ntmps17
  go_wp2_with (first | (go_at_call 46; refine (specWrdOk_any _ _).mono ?_; rintro e w' ⟨rfl, rfl⟩) | (go_at_call 47; refine (specWrap_any _ (by omega) (by omega) _).mono ?_; rintro e w' ⟨rfl, rfl⟩))
  go_ret
  exact ⟨by rw [HV.out, ← HB.out]; rfl, rfl⟩

theorem specDo5 (a b : Int) (ha0 : 0 ≤ a) (ha1 : a < 65536) (hb0 : 0 ≤ b) (hb1 : b < 65536) (w : World) : Calls Try.prog 17 #[.int .i64 5, .int .i64 a, .int .i64 b] w fun e w' => e = .returned (.int .i64 (wrdDo 5 a b)) ∧ w = w' := by
  have HV := hide (show wrdDo 5 a b = ((a.toNat ^^^ b.toNat : Nat) : Int) by unfold wrdDo; rw [wordB_yes ha0 ha1, wordB_yes hb0 hb1]; rfl)
  have qa : wordB a = true := by simp [inB, wordB]; omega
  have qb : wordB b = true := by simp [inB, wordB]; omega
  have HB := hide (i64_xor_int a b ha0 ha1 hb0 hb1)
  go_enter Try.func17, Try.ntmps17
  go_wp2_with (first | (go_at_call 46; refine (specWrdOk_any _ _).mono ?_; rintro e w' ⟨rfl, rfl⟩) | (go_at_call 47; refine (specWrap_any _ (by omega) (by omega) _).mono ?_; rintro e w' ⟨rfl, rfl⟩))
  go_ret
  exact ⟨by rw [HV.out, ← HB.out]; rfl, rfl⟩

theorem specWrdDo_any (op a b : Int) (w : World) (ho : 1 ≤ op ∧ op ≤ 5) (ha : wordB a = true) (hb : wordB b = true) : Calls Try.prog 17 #[.int .i64 op, .int .i64 a, .int .i64 b] w fun e w' => e = .returned (.int .i64 (wrdDo op a b)) ∧ w = w' := by
  simp [wordB] at ha hb
  have hc : op = 1 ∨ op = 2 ∨ op = 3 ∨ op = 4 ∨ op = 5 := by omega
  rcases hc with rfl | rfl | rfl | rfl | rfl
  · exact specDo1 a b ha.1 ha.2 hb.1 hb.2 w
  · exact specDo2 a b ha.1 ha.2 hb.1 hb.2 w
  · exact specDo3 a b ha.1 ha.2 hb.1 hb.2 w
  · exact specDo4 a b ha.1 ha.2 hb.1 hb.2 w
  · exact specDo5 a b ha.1 ha.2 hb.1 hb.2 w

end Go.Proofs.Ytmbclopkopfngaa
