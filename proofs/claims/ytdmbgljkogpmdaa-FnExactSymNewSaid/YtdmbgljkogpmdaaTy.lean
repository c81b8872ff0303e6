/-
  The program's data in plain Lean: each struct, what it reads as in memory, and what its cells are. No program in sight.
-/
import Derived.Test.YtdmbgljkogpmdaaLib
namespace Go.Proofs.Ytdmbgljkogpmdaa
open Go.RowKit

set_option linter.unusedVariables false
set_option linter.unusedSimpArgs false
set_option maxRecDepth 100000

theorem at_Int {w : World} {S : Nat → Prop} {A : Option Addr} {n c : Nat} {l : List Int} (h : Sl w S (.slice A n c) l) {i : Nat} (hi : i < l.length) :
    ∃ (b off : Nat), A = some ⟨b, off, none⟩ ∧ S b ∧ Fits l[i] ∧ w.cell? ⟨b, off + i, none⟩ = some (.int .i64 (l[i])) := by
  obtain ⟨A', c', h1, _, _, _, h4⟩ := h
  injection h1 with e1 e2 e3
  subst e1
  obtain ⟨b, off, e, hb, hh⟩ := h4 (by intro e; simp [e] at hi)
  obtain ⟨vs, hv, hc⟩ := hh i _ (List.getElem?_eq_getElem hi)
  obtain ⟨rfl, hk⟩ := hv
  exact ⟨b, off, e, hb, hk, by simpa [Rep.sz] using hc 0 _ rfl⟩

theorem at_Bool {w : World} {S : Nat → Prop} {A : Option Addr} {n c : Nat} {l : List Bool} (h : Sl w S (.slice A n c) l) {i : Nat} (hi : i < l.length) :
    ∃ (b off : Nat), A = some ⟨b, off, none⟩ ∧ S b ∧ w.cell? ⟨b, off + i, none⟩ = some (.bool l[i]) := by
  obtain ⟨A', c', h1, _, _, _, h4⟩ := h
  injection h1 with e1 e2 e3
  subst e1
  obtain ⟨b, off, e, hb, hh⟩ := h4 (by intro e; simp [e] at hi)
  obtain ⟨vs, hv, hc⟩ := hh i _ (List.getElem?_eq_getElem hi)
  obtain rfl := hv
  exact ⟨b, off, e, hb, by simpa [Rep.sz] using hc 0 _ rfl⟩

theorem at_UInt8 {w : World} {S : Nat → Prop} {A : Option Addr} {n c : Nat} {l : List UInt8} (h : Sl w S (.slice A n c) l) {i : Nat} (hi : i < l.length) :
    ∃ (b off : Nat), A = some ⟨b, off, none⟩ ∧ S b ∧ w.cell? ⟨b, off + i, none⟩ = some (.int .u8 (l[i].toNat : Int)) := by
  obtain ⟨A', c', h1, _, _, _, h4⟩ := h
  injection h1 with e1 e2 e3
  subst e1
  obtain ⟨b, off, e, hb, hh⟩ := h4 (by intro e; simp [e] at hi)
  obtain ⟨vs, hv, hc⟩ := hh i _ (List.getElem?_eq_getElem hi)
  obtain rfl := hv
  exact ⟨b, off, e, hb, by simpa [Rep.sz] using hc 0 _ rfl⟩

structure TrmMono where
  coef : Int
  atoms : List Int
  deriving DecidableEq

/-- The numbers fit. -/
def TrmMono.Ok (o : TrmMono) : Prop := Fits o.coef

instance : Rep TrmMono where
  sz := 2
  rep w S vs o := ∃ v1 : Value, vs = [.int .i64 o.coef, v1] ∧ o.Ok ∧ Sl w S v1 o.atoms
  len h := by obtain ⟨v1, rfl, hk, h1⟩ := h; rfl
  keep h hc hs := by obtain ⟨v1, rfl, hk, h1⟩ := h; exact ⟨v1, rfl, hk, h1.keep hc hs⟩

instance : Own TrmMono where
  own w vs o F := ∃ (v1 : Value), vs = [.int .i64 o.coef, v1] ∧ o.Ok ∧ OwnSl w v1 o.atoms F
  asRep h := by obtain ⟨v1, rfl, hk, h1⟩ := h; exact ⟨v1, rfl, hk, h1.sl.keep (fun _ _ _ => rfl) (fun b hb => by simp [hb])⟩
  stay h hF := by obtain ⟨v1, rfl, hk, h1⟩ := h; exact ⟨v1, rfl, hk, h1.stay (fun b hb => hF b (by simp [hb]))⟩

theorem at_TrmMono {w : World} {S : Nat → Prop} {A : Option Addr} {n c : Nat} {l : List TrmMono} (h : Sl w S (.slice A n c) l) {i : Nat} (hi : i < l.length) :
    ∃ (b off : Nat) (v1 : Value), A = some ⟨b, off, none⟩ ∧ S b ∧ l[i].Ok ∧ Sl w S v1 l[i].atoms ∧ w.cell? ⟨b, off + i * 2, none⟩ = some (.int .i64 (l[i].coef)) ∧ w.cell? ⟨b, off + i * 2 + 1, none⟩ = some (v1) := by
  obtain ⟨A', c', h1, _, _, _, h4⟩ := h
  injection h1 with e1 e2 e3
  subst e1
  obtain ⟨b, off, e, hb, hh⟩ := h4 (by intro e; simp [e] at hi)
  obtain ⟨vs, hv, hc⟩ := hh i _ (List.getElem?_eq_getElem hi)
  obtain ⟨v1, rfl, hk, h1⟩ := hv
  exact ⟨b, off, v1, e, hb, hk, h1, hc 0 _ rfl, hc 1 _ rfl⟩

theorem TrmMono.eq_iff (a b : TrmMono) : a = b ↔ a.coef = b.coef ∧ a.atoms = b.atoms := by
  cases a; cases b; simp

structure TrmPoly where
  monos : List TrmMono
  deriving DecidableEq

/-- The numbers fit. -/
def TrmPoly.Ok (o : TrmPoly) : Prop := True

instance : Rep TrmPoly where
  sz := 1
  rep w S vs o := ∃ v1 : Value, vs = [v1] ∧ o.Ok ∧ Sl w S v1 o.monos
  len h := by obtain ⟨v1, rfl, hk, h1⟩ := h; rfl
  keep h hc hs := by obtain ⟨v1, rfl, hk, h1⟩ := h; exact ⟨v1, rfl, hk, h1.keep hc hs⟩

instance : Own TrmPoly where
  own w vs o F := ∃ (v1 : Value), vs = [v1] ∧ o.Ok ∧ OwnSl w v1 o.monos F
  asRep h := by obtain ⟨v1, rfl, hk, h1⟩ := h; exact ⟨v1, rfl, hk, h1.sl.keep (fun _ _ _ => rfl) (fun b hb => by simp [hb])⟩
  stay h hF := by obtain ⟨v1, rfl, hk, h1⟩ := h; exact ⟨v1, rfl, hk, h1.stay (fun b hb => hF b (by simp [hb]))⟩

theorem at_TrmPoly {w : World} {S : Nat → Prop} {A : Option Addr} {n c : Nat} {l : List TrmPoly} (h : Sl w S (.slice A n c) l) {i : Nat} (hi : i < l.length) :
    ∃ (b off : Nat) (v1 : Value), A = some ⟨b, off, none⟩ ∧ S b ∧ l[i].Ok ∧ Sl w S v1 l[i].monos ∧ w.cell? ⟨b, off + i, none⟩ = some (v1) := by
  obtain ⟨A', c', h1, _, _, _, h4⟩ := h
  injection h1 with e1 e2 e3
  subst e1
  obtain ⟨b, off, e, hb, hh⟩ := h4 (by intro e; simp [e] at hi)
  obtain ⟨vs, hv, hc⟩ := hh i _ (List.getElem?_eq_getElem hi)
  obtain ⟨v1, rfl, hk, h1⟩ := hv
  exact ⟨b, off, v1, e, hb, hk, h1, by simpa [Rep.sz] using hc 0 _ rfl⟩

theorem TrmPoly.eq_iff (a b : TrmPoly) : a = b ↔ a.monos = b.monos := by
  cases a; cases b; simp

structure TabAtom where
  kind : Int
  k : Int
  x : TrmPoly
  y : TrmPoly
  deriving DecidableEq

/-- The numbers fit. -/
def TabAtom.Ok (o : TabAtom) : Prop := Fits o.kind ∧ Fits o.k

instance : Rep TabAtom where
  sz := 4
  rep w S vs o := ∃ v1 v2 : Value, vs = [.int .i64 o.kind, .int .i64 o.k, v1, v2] ∧ o.Ok ∧ Sl w S v1 o.x.monos ∧ Sl w S v2 o.y.monos
  len h := by obtain ⟨v1, v2, rfl, hk, h1, h2⟩ := h; rfl
  keep h hc hs := by obtain ⟨v1, v2, rfl, hk, h1, h2⟩ := h; exact ⟨v1, v2, rfl, hk, h1.keep hc hs, h2.keep hc hs⟩

instance : Own TabAtom where
  own w vs o F := ∃ (v1 v2 : Value) (F1 F2 : List Nat), vs = [.int .i64 o.kind, .int .i64 o.k, v1, v2] ∧ o.Ok ∧ OwnSl w v1 o.x.monos F1 ∧ OwnSl w v2 o.y.monos F2 ∧ F = F1 ++ F2
  asRep h := by obtain ⟨v1, v2, F1, F2, rfl, hk, h1, h2, rfl⟩ := h; exact ⟨v1, v2, rfl, hk, h1.sl.keep (fun _ _ _ => rfl) (fun b hb => by simp [hb]), h2.sl.keep (fun _ _ _ => rfl) (fun b hb => by simp [hb])⟩
  stay h hF := by obtain ⟨v1, v2, F1, F2, rfl, hk, h1, h2, rfl⟩ := h; exact ⟨v1, v2, F1, F2, rfl, hk, h1.stay (fun b hb => hF b (by simp [hb])), h2.stay (fun b hb => hF b (by simp [hb])), rfl⟩

theorem at_TabAtom {w : World} {S : Nat → Prop} {A : Option Addr} {n c : Nat} {l : List TabAtom} (h : Sl w S (.slice A n c) l) {i : Nat} (hi : i < l.length) :
    ∃ (b off : Nat) (v1 v2 : Value), A = some ⟨b, off, none⟩ ∧ S b ∧ l[i].Ok ∧ Sl w S v1 l[i].x.monos ∧ Sl w S v2 l[i].y.monos ∧ w.cell? ⟨b, off + i * 4, none⟩ = some (.int .i64 (l[i].kind)) ∧ w.cell? ⟨b, off + i * 4 + 1, none⟩ = some (.int .i64 (l[i].k)) ∧ w.cell? ⟨b, off + i * 4 + 2, none⟩ = some (v1) ∧ w.cell? ⟨b, off + i * 4 + 3, none⟩ = some (v2) := by
  obtain ⟨A', c', h1, _, _, _, h4⟩ := h
  injection h1 with e1 e2 e3
  subst e1
  obtain ⟨b, off, e, hb, hh⟩ := h4 (by intro e; simp [e] at hi)
  obtain ⟨vs, hv, hc⟩ := hh i _ (List.getElem?_eq_getElem hi)
  obtain ⟨v1, v2, rfl, hk, h1, h2⟩ := hv
  exact ⟨b, off, v1, v2, e, hb, hk, h1, h2, hc 0 _ rfl, hc 1 _ rfl, hc 2 _ rfl, hc 3 _ rfl⟩

theorem TabAtom.eq_iff (a b : TabAtom) : a = b ↔ a.kind = b.kind ∧ a.k = b.k ∧ a.x = b.x ∧ a.y = b.y := by
  cases a; cases b; simp

structure TabTab where
  atoms : List TabAtom
  deriving DecidableEq

/-- The numbers fit. -/
def TabTab.Ok (o : TabTab) : Prop := True

instance : Rep TabTab where
  sz := 1
  rep w S vs o := ∃ v1 : Value, vs = [v1] ∧ o.Ok ∧ Sl w S v1 o.atoms
  len h := by obtain ⟨v1, rfl, hk, h1⟩ := h; rfl
  keep h hc hs := by obtain ⟨v1, rfl, hk, h1⟩ := h; exact ⟨v1, rfl, hk, h1.keep hc hs⟩

instance : Own TabTab where
  own w vs o F := ∃ (v1 : Value), vs = [v1] ∧ o.Ok ∧ OwnSl w v1 o.atoms F
  asRep h := by obtain ⟨v1, rfl, hk, h1⟩ := h; exact ⟨v1, rfl, hk, h1.sl.keep (fun _ _ _ => rfl) (fun b hb => by simp [hb])⟩
  stay h hF := by obtain ⟨v1, rfl, hk, h1⟩ := h; exact ⟨v1, rfl, hk, h1.stay (fun b hb => hF b (by simp [hb]))⟩

theorem at_TabTab {w : World} {S : Nat → Prop} {A : Option Addr} {n c : Nat} {l : List TabTab} (h : Sl w S (.slice A n c) l) {i : Nat} (hi : i < l.length) :
    ∃ (b off : Nat) (v1 : Value), A = some ⟨b, off, none⟩ ∧ S b ∧ l[i].Ok ∧ Sl w S v1 l[i].atoms ∧ w.cell? ⟨b, off + i, none⟩ = some (v1) := by
  obtain ⟨A', c', h1, _, _, _, h4⟩ := h
  injection h1 with e1 e2 e3
  subst e1
  obtain ⟨b, off, e, hb, hh⟩ := h4 (by intro e; simp [e] at hi)
  obtain ⟨vs, hv, hc⟩ := hh i _ (List.getElem?_eq_getElem hi)
  obtain ⟨v1, rfl, hk, h1⟩ := hv
  exact ⟨b, off, v1, e, hb, hk, h1, by simpa [Rep.sz] using hc 0 _ rfl⟩

theorem TabTab.eq_iff (a b : TabTab) : a = b ↔ a.atoms = b.atoms := by
  cases a; cases b; simp

structure SymEvent where
  kind : Int
  at_ : Int
  x : TrmPoly
  y : TrmPoly
  regs : List TrmPoly
  deriving DecidableEq

/-- The numbers fit. -/
def SymEvent.Ok (o : SymEvent) : Prop := Fits o.kind ∧ Fits o.at_

instance : Rep SymEvent where
  sz := 5
  rep w S vs o := ∃ v1 v2 v3 : Value, vs = [.int .i64 o.kind, .int .i64 o.at_, v1, v2, v3] ∧ o.Ok ∧ Sl w S v1 o.x.monos ∧ Sl w S v2 o.y.monos ∧ Sl w S v3 o.regs
  len h := by obtain ⟨v1, v2, v3, rfl, hk, h1, h2, h3⟩ := h; rfl
  keep h hc hs := by obtain ⟨v1, v2, v3, rfl, hk, h1, h2, h3⟩ := h; exact ⟨v1, v2, v3, rfl, hk, h1.keep hc hs, h2.keep hc hs, h3.keep hc hs⟩

instance : Own SymEvent where
  own w vs o F := ∃ (v1 v2 v3 : Value) (F1 F2 F3 : List Nat), vs = [.int .i64 o.kind, .int .i64 o.at_, v1, v2, v3] ∧ o.Ok ∧ OwnSl w v1 o.x.monos F1 ∧ OwnSl w v2 o.y.monos F2 ∧ OwnSl w v3 o.regs F3 ∧ F = F1 ++ F2 ++ F3
  asRep h := by obtain ⟨v1, v2, v3, F1, F2, F3, rfl, hk, h1, h2, h3, rfl⟩ := h; exact ⟨v1, v2, v3, rfl, hk, h1.sl.keep (fun _ _ _ => rfl) (fun b hb => by simp [hb]), h2.sl.keep (fun _ _ _ => rfl) (fun b hb => by simp [hb]), h3.sl.keep (fun _ _ _ => rfl) (fun b hb => by simp [hb])⟩
  stay h hF := by obtain ⟨v1, v2, v3, F1, F2, F3, rfl, hk, h1, h2, h3, rfl⟩ := h; exact ⟨v1, v2, v3, F1, F2, F3, rfl, hk, h1.stay (fun b hb => hF b (by simp [hb])), h2.stay (fun b hb => hF b (by simp [hb])), h3.stay (fun b hb => hF b (by simp [hb])), rfl⟩

theorem at_SymEvent {w : World} {S : Nat → Prop} {A : Option Addr} {n c : Nat} {l : List SymEvent} (h : Sl w S (.slice A n c) l) {i : Nat} (hi : i < l.length) :
    ∃ (b off : Nat) (v1 v2 v3 : Value), A = some ⟨b, off, none⟩ ∧ S b ∧ l[i].Ok ∧ Sl w S v1 l[i].x.monos ∧ Sl w S v2 l[i].y.monos ∧ Sl w S v3 l[i].regs ∧ w.cell? ⟨b, off + i * 5, none⟩ = some (.int .i64 (l[i].kind)) ∧ w.cell? ⟨b, off + i * 5 + 1, none⟩ = some (.int .i64 (l[i].at_)) ∧ w.cell? ⟨b, off + i * 5 + 2, none⟩ = some (v1) ∧ w.cell? ⟨b, off + i * 5 + 3, none⟩ = some (v2) ∧ w.cell? ⟨b, off + i * 5 + 4, none⟩ = some (v3) := by
  obtain ⟨A', c', h1, _, _, _, h4⟩ := h
  injection h1 with e1 e2 e3
  subst e1
  obtain ⟨b, off, e, hb, hh⟩ := h4 (by intro e; simp [e] at hi)
  obtain ⟨vs, hv, hc⟩ := hh i _ (List.getElem?_eq_getElem hi)
  obtain ⟨v1, v2, v3, rfl, hk, h1, h2, h3⟩ := hv
  exact ⟨b, off, v1, v2, v3, e, hb, hk, h1, h2, h3, hc 0 _ rfl, hc 1 _ rfl, hc 2 _ rfl, hc 3 _ rfl, hc 4 _ rfl⟩

theorem SymEvent.eq_iff (a b : SymEvent) : a = b ↔ a.kind = b.kind ∧ a.at_ = b.at_ ∧ a.x = b.x ∧ a.y = b.y ∧ a.regs = b.regs := by
  cases a; cases b; simp

structure SymSym where
  events : List SymEvent
  regs : List TrmPoly
  fin : Int
  x : TrmPoly
  y : TrmPoly
  k : Int
  deriving DecidableEq

/-- The numbers fit. -/
def SymSym.Ok (o : SymSym) : Prop := Fits o.fin ∧ Fits o.k

instance : Rep SymSym where
  sz := 6
  rep w S vs o := ∃ v1 v2 v3 v4 : Value, vs = [v1, v2, .int .i64 o.fin, v3, v4, .int .i64 o.k] ∧ o.Ok ∧ Sl w S v1 o.events ∧ Sl w S v2 o.regs ∧ Sl w S v3 o.x.monos ∧ Sl w S v4 o.y.monos
  len h := by obtain ⟨v1, v2, v3, v4, rfl, hk, h1, h2, h3, h4⟩ := h; rfl
  keep h hc hs := by obtain ⟨v1, v2, v3, v4, rfl, hk, h1, h2, h3, h4⟩ := h; exact ⟨v1, v2, v3, v4, rfl, hk, h1.keep hc hs, h2.keep hc hs, h3.keep hc hs, h4.keep hc hs⟩

instance : Own SymSym where
  own w vs o F := ∃ (v1 v2 v3 v4 : Value) (F1 F2 F3 F4 : List Nat), vs = [v1, v2, .int .i64 o.fin, v3, v4, .int .i64 o.k] ∧ o.Ok ∧ OwnSl w v1 o.events F1 ∧ OwnSl w v2 o.regs F2 ∧ OwnSl w v3 o.x.monos F3 ∧ OwnSl w v4 o.y.monos F4 ∧ F = F1 ++ F2 ++ F3 ++ F4
  asRep h := by obtain ⟨v1, v2, v3, v4, F1, F2, F3, F4, rfl, hk, h1, h2, h3, h4, rfl⟩ := h; exact ⟨v1, v2, v3, v4, rfl, hk, h1.sl.keep (fun _ _ _ => rfl) (fun b hb => by simp [hb]), h2.sl.keep (fun _ _ _ => rfl) (fun b hb => by simp [hb]), h3.sl.keep (fun _ _ _ => rfl) (fun b hb => by simp [hb]), h4.sl.keep (fun _ _ _ => rfl) (fun b hb => by simp [hb])⟩
  stay h hF := by obtain ⟨v1, v2, v3, v4, F1, F2, F3, F4, rfl, hk, h1, h2, h3, h4, rfl⟩ := h; exact ⟨v1, v2, v3, v4, F1, F2, F3, F4, rfl, hk, h1.stay (fun b hb => hF b (by simp [hb])), h2.stay (fun b hb => hF b (by simp [hb])), h3.stay (fun b hb => hF b (by simp [hb])), h4.stay (fun b hb => hF b (by simp [hb])), rfl⟩

theorem at_SymSym {w : World} {S : Nat → Prop} {A : Option Addr} {n c : Nat} {l : List SymSym} (h : Sl w S (.slice A n c) l) {i : Nat} (hi : i < l.length) :
    ∃ (b off : Nat) (v1 v2 v3 v4 : Value), A = some ⟨b, off, none⟩ ∧ S b ∧ l[i].Ok ∧ Sl w S v1 l[i].events ∧ Sl w S v2 l[i].regs ∧ Sl w S v3 l[i].x.monos ∧ Sl w S v4 l[i].y.monos ∧ w.cell? ⟨b, off + i * 6, none⟩ = some (v1) ∧ w.cell? ⟨b, off + i * 6 + 1, none⟩ = some (v2) ∧ w.cell? ⟨b, off + i * 6 + 2, none⟩ = some (.int .i64 (l[i].fin)) ∧ w.cell? ⟨b, off + i * 6 + 3, none⟩ = some (v3) ∧ w.cell? ⟨b, off + i * 6 + 4, none⟩ = some (v4) ∧ w.cell? ⟨b, off + i * 6 + 5, none⟩ = some (.int .i64 (l[i].k)) := by
  obtain ⟨A', c', h1, _, _, _, h4⟩ := h
  injection h1 with e1 e2 e3
  subst e1
  obtain ⟨b, off, e, hb, hh⟩ := h4 (by intro e; simp [e] at hi)
  obtain ⟨vs, hv, hc⟩ := hh i _ (List.getElem?_eq_getElem hi)
  obtain ⟨v1, v2, v3, v4, rfl, hk, h1, h2, h3, h4⟩ := hv
  exact ⟨b, off, v1, v2, v3, v4, e, hb, hk, h1, h2, h3, h4, hc 0 _ rfl, hc 1 _ rfl, hc 2 _ rfl, hc 3 _ rfl, hc 4 _ rfl, hc 5 _ rfl⟩

theorem SymSym.eq_iff (a b : SymSym) : a = b ↔ a.events = b.events ∧ a.regs = b.regs ∧ a.fin = b.fin ∧ a.x = b.x ∧ a.y = b.y ∧ a.k = b.k := by
  cases a; cases b; simp

instance : Bulk TrmMono := ⟨fun o => Bulk.blk o.atoms⟩

instance : Bulk TrmPoly := ⟨fun o => Bulk.blk o.monos⟩

instance : Bulk TabAtom := ⟨fun o => Bulk.blk o.x + Bulk.blk o.y⟩

instance : Bulk TabTab := ⟨fun o => Bulk.blk o.atoms⟩

instance : Bulk SymEvent := ⟨fun o => Bulk.blk o.x + Bulk.blk o.y + Bulk.blk o.regs⟩

instance : Bulk SymSym := ⟨fun o => Bulk.blk o.events + Bulk.blk o.regs + Bulk.blk o.x + Bulk.blk o.y⟩

end Go.Proofs.Ytdmbgljkogpmdaa
