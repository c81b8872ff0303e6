/-
  The program's data in plain Lean: each struct, what it reads as in memory, and what its cells are. No program in sight.
-/
import Derived.Test.YtpneijbjheeobaaLib
namespace Go.Proofs.Ytpneijbjheeobaa
open Go.RowKit

set_option linter.unusedVariables false
set_option linter.unusedSimpArgs false
set_option maxRecDepth 100000

theorem at_Int {w : World} {S : Nat → Prop} {A : Option Addr} {n c : Nat} {l : List Int} (h : Sl w S (.slice A n c) l) {i : Nat} (hi : i < l.length) :
    ∃ (b off : Nat), A = some ⟨b, off, none⟩ ∧ S b ∧ Fits l[i] ∧ w.cell? ⟨b, off + i, none⟩ = some (.int .i64 (l[i])) := by
  obtain ⟨A', c', h1, _, _, _, h4⟩ := h
  injection h1 with e1 e2 e3
  subst e1
  obtain ⟨b, off, e, hb, hh⟩ := h4 (by intro e; simp [e] at hi)
  obtain ⟨vs, hv, hc⟩ := hh i _ (List.getElem?_eq_getElem hi)
  obtain ⟨rfl, hk⟩ := hv
  exact ⟨b, off, e, hb, hk, by simpa [Rep.sz] using hc 0 _ rfl⟩

theorem at_Bool {w : World} {S : Nat → Prop} {A : Option Addr} {n c : Nat} {l : List Bool} (h : Sl w S (.slice A n c) l) {i : Nat} (hi : i < l.length) :
    ∃ (b off : Nat), A = some ⟨b, off, none⟩ ∧ S b ∧ w.cell? ⟨b, off + i, none⟩ = some (.bool l[i]) := by
  obtain ⟨A', c', h1, _, _, _, h4⟩ := h
  injection h1 with e1 e2 e3
  subst e1
  obtain ⟨b, off, e, hb, hh⟩ := h4 (by intro e; simp [e] at hi)
  obtain ⟨vs, hv, hc⟩ := hh i _ (List.getElem?_eq_getElem hi)
  obtain rfl := hv
  exact ⟨b, off, e, hb, by simpa [Rep.sz] using hc 0 _ rfl⟩

theorem at_UInt8 {w : World} {S : Nat → Prop} {A : Option Addr} {n c : Nat} {l : List UInt8} (h : Sl w S (.slice A n c) l) {i : Nat} (hi : i < l.length) :
    ∃ (b off : Nat), A = some ⟨b, off, none⟩ ∧ S b ∧ w.cell? ⟨b, off + i, none⟩ = some (.int .u8 (l[i].toNat : Int)) := by
  obtain ⟨A', c', h1, _, _, _, h4⟩ := h
  injection h1 with e1 e2 e3
  subst e1
  obtain ⟨b, off, e, hb, hh⟩ := h4 (by intro e; simp [e] at hi)
  obtain ⟨vs, hv, hc⟩ := hh i _ (List.getElem?_eq_getElem hi)
  obtain rfl := hv
  exact ⟨b, off, e, hb, by simpa [Rep.sz] using hc 0 _ rfl⟩

structure IrOp where
  kind : Int
  x : Int
  y : Int
  k : Int
  at_ : Int
  deriving DecidableEq

/-- The numbers fit. -/
def IrOp.Ok (o : IrOp) : Prop := Fits o.kind ∧ Fits o.x ∧ Fits o.y ∧ Fits o.k ∧ Fits o.at_

instance : Rep IrOp where
  sz := 5
  rep _ _ vs o := vs = [.int .i64 o.kind, .int .i64 o.x, .int .i64 o.y, .int .i64 o.k, .int .i64 o.at_] ∧ o.Ok
  len h := by obtain ⟨rfl, hk⟩ := h; rfl
  keep h _ _ := h
instance : Own IrOp where
  own _ vs o F := vs = [.int .i64 o.kind, .int .i64 o.x, .int .i64 o.y, .int .i64 o.k, .int .i64 o.at_] ∧ o.Ok ∧ F = []
  asRep h := ⟨h.1, h.2.1⟩
  stay h _ := h

theorem at_IrOp {w : World} {S : Nat → Prop} {A : Option Addr} {n c : Nat} {l : List IrOp} (h : Sl w S (.slice A n c) l) {i : Nat} (hi : i < l.length) :
    ∃ (b off : Nat), A = some ⟨b, off, none⟩ ∧ S b ∧ l[i].Ok ∧ w.cell? ⟨b, off + i * 5, none⟩ = some (.int .i64 (l[i].kind)) ∧ w.cell? ⟨b, off + i * 5 + 1, none⟩ = some (.int .i64 (l[i].x)) ∧ w.cell? ⟨b, off + i * 5 + 2, none⟩ = some (.int .i64 (l[i].y)) ∧ w.cell? ⟨b, off + i * 5 + 3, none⟩ = some (.int .i64 (l[i].k)) ∧ w.cell? ⟨b, off + i * 5 + 4, none⟩ = some (.int .i64 (l[i].at_)) := by
  obtain ⟨A', c', h1, _, _, _, h4⟩ := h
  injection h1 with e1 e2 e3
  subst e1
  obtain ⟨b, off, e, hb, hh⟩ := h4 (by intro e; simp [e] at hi)
  obtain ⟨vs, hv, hc⟩ := hh i _ (List.getElem?_eq_getElem hi)
  obtain ⟨rfl, hk⟩ := hv
  exact ⟨b, off, e, hb, hk, hc 0 _ rfl, hc 1 _ rfl, hc 2 _ rfl, hc 3 _ rfl, hc 4 _ rfl⟩

theorem IrOp.eq_iff (a b : IrOp) : a = b ↔ a.kind = b.kind ∧ a.x = b.x ∧ a.y = b.y ∧ a.k = b.k ∧ a.at_ = b.at_ := by
  cases a; cases b; simp

structure IrBlock where
  pc : Int
  len : Int
  ops : List IrOp
  fin : Int
  x : Int
  y : Int
  k : Int
  deriving DecidableEq

/-- The numbers fit. -/
def IrBlock.Ok (o : IrBlock) : Prop := Fits o.pc ∧ Fits o.len ∧ Fits o.fin ∧ Fits o.x ∧ Fits o.y ∧ Fits o.k

instance : Rep IrBlock where
  sz := 7
  rep w S vs o := ∃ v1 : Value, vs = [.int .i64 o.pc, .int .i64 o.len, v1, .int .i64 o.fin, .int .i64 o.x, .int .i64 o.y, .int .i64 o.k] ∧ o.Ok ∧ Sl w S v1 o.ops
  len h := by obtain ⟨v1, rfl, hk, h1⟩ := h; rfl
  keep h hc hs := by obtain ⟨v1, rfl, hk, h1⟩ := h; exact ⟨v1, rfl, hk, h1.keep hc hs⟩

instance : Own IrBlock where
  own w vs o F := ∃ (v1 : Value), vs = [.int .i64 o.pc, .int .i64 o.len, v1, .int .i64 o.fin, .int .i64 o.x, .int .i64 o.y, .int .i64 o.k] ∧ o.Ok ∧ OwnSl w v1 o.ops F
  asRep h := by obtain ⟨v1, rfl, hk, h1⟩ := h; exact ⟨v1, rfl, hk, h1.sl.keep (fun _ _ _ => rfl) (fun b hb => by simp [hb])⟩
  stay h hF := by obtain ⟨v1, rfl, hk, h1⟩ := h; exact ⟨v1, rfl, hk, h1.stay (fun b hb => hF b (by simp [hb]))⟩

theorem at_IrBlock {w : World} {S : Nat → Prop} {A : Option Addr} {n c : Nat} {l : List IrBlock} (h : Sl w S (.slice A n c) l) {i : Nat} (hi : i < l.length) :
    ∃ (b off : Nat) (v1 : Value), A = some ⟨b, off, none⟩ ∧ S b ∧ l[i].Ok ∧ Sl w S v1 l[i].ops ∧ w.cell? ⟨b, off + i * 7, none⟩ = some (.int .i64 (l[i].pc)) ∧ w.cell? ⟨b, off + i * 7 + 1, none⟩ = some (.int .i64 (l[i].len)) ∧ w.cell? ⟨b, off + i * 7 + 2, none⟩ = some (v1) ∧ w.cell? ⟨b, off + i * 7 + 3, none⟩ = some (.int .i64 (l[i].fin)) ∧ w.cell? ⟨b, off + i * 7 + 4, none⟩ = some (.int .i64 (l[i].x)) ∧ w.cell? ⟨b, off + i * 7 + 5, none⟩ = some (.int .i64 (l[i].y)) ∧ w.cell? ⟨b, off + i * 7 + 6, none⟩ = some (.int .i64 (l[i].k)) := by
  obtain ⟨A', c', h1, _, _, _, h4⟩ := h
  injection h1 with e1 e2 e3
  subst e1
  obtain ⟨b, off, e, hb, hh⟩ := h4 (by intro e; simp [e] at hi)
  obtain ⟨vs, hv, hc⟩ := hh i _ (List.getElem?_eq_getElem hi)
  obtain ⟨v1, rfl, hk, h1⟩ := hv
  exact ⟨b, off, v1, e, hb, hk, h1, hc 0 _ rfl, hc 1 _ rfl, hc 2 _ rfl, hc 3 _ rfl, hc 4 _ rfl, hc 5 _ rfl, hc 6 _ rfl⟩

theorem IrBlock.eq_iff (a b : IrBlock) : a = b ↔ a.pc = b.pc ∧ a.len = b.len ∧ a.ops = b.ops ∧ a.fin = b.fin ∧ a.x = b.x ∧ a.y = b.y ∧ a.k = b.k := by
  cases a; cases b; simp

structure CacEntry where
  words : List Int
  block : IrBlock
  deriving DecidableEq

/-- The numbers fit. -/
def CacEntry.Ok (o : CacEntry) : Prop := Fits o.block.pc ∧ Fits o.block.len ∧ Fits o.block.fin ∧ Fits o.block.x ∧ Fits o.block.y ∧ Fits o.block.k

instance : Rep CacEntry where
  sz := 8
  rep w S vs o := ∃ v1 v2 : Value, vs = [v1, .int .i64 o.block.pc, .int .i64 o.block.len, v2, .int .i64 o.block.fin, .int .i64 o.block.x, .int .i64 o.block.y, .int .i64 o.block.k] ∧ o.Ok ∧ Sl w S v1 o.words ∧ Sl w S v2 o.block.ops
  len h := by obtain ⟨v1, v2, rfl, hk, h1, h2⟩ := h; rfl
  keep h hc hs := by obtain ⟨v1, v2, rfl, hk, h1, h2⟩ := h; exact ⟨v1, v2, rfl, hk, h1.keep hc hs, h2.keep hc hs⟩

instance : Own CacEntry where
  own w vs o F := ∃ (v1 v2 : Value) (F1 F2 : List Nat), vs = [v1, .int .i64 o.block.pc, .int .i64 o.block.len, v2, .int .i64 o.block.fin, .int .i64 o.block.x, .int .i64 o.block.y, .int .i64 o.block.k] ∧ o.Ok ∧ OwnSl w v1 o.words F1 ∧ OwnSl w v2 o.block.ops F2 ∧ F = F1 ++ F2
  asRep h := by obtain ⟨v1, v2, F1, F2, rfl, hk, h1, h2, rfl⟩ := h; exact ⟨v1, v2, rfl, hk, h1.sl.keep (fun _ _ _ => rfl) (fun b hb => by simp [hb]), h2.sl.keep (fun _ _ _ => rfl) (fun b hb => by simp [hb])⟩
  stay h hF := by obtain ⟨v1, v2, F1, F2, rfl, hk, h1, h2, rfl⟩ := h; exact ⟨v1, v2, F1, F2, rfl, hk, h1.stay (fun b hb => hF b (by simp [hb])), h2.stay (fun b hb => hF b (by simp [hb])), rfl⟩

theorem at_CacEntry {w : World} {S : Nat → Prop} {A : Option Addr} {n c : Nat} {l : List CacEntry} (h : Sl w S (.slice A n c) l) {i : Nat} (hi : i < l.length) :
    ∃ (b off : Nat) (v1 v2 : Value), A = some ⟨b, off, none⟩ ∧ S b ∧ l[i].Ok ∧ Sl w S v1 l[i].words ∧ Sl w S v2 l[i].block.ops ∧ w.cell? ⟨b, off + i * 8, none⟩ = some (v1) ∧ w.cell? ⟨b, off + i * 8 + 1, none⟩ = some (.int .i64 (l[i].block.pc)) ∧ w.cell? ⟨b, off + i * 8 + 2, none⟩ = some (.int .i64 (l[i].block.len)) ∧ w.cell? ⟨b, off + i * 8 + 3, none⟩ = some (v2) ∧ w.cell? ⟨b, off + i * 8 + 4, none⟩ = some (.int .i64 (l[i].block.fin)) ∧ w.cell? ⟨b, off + i * 8 + 5, none⟩ = some (.int .i64 (l[i].block.x)) ∧ w.cell? ⟨b, off + i * 8 + 6, none⟩ = some (.int .i64 (l[i].block.y)) ∧ w.cell? ⟨b, off + i * 8 + 7, none⟩ = some (.int .i64 (l[i].block.k)) := by
  obtain ⟨A', c', h1, _, _, _, h4⟩ := h
  injection h1 with e1 e2 e3
  subst e1
  obtain ⟨b, off, e, hb, hh⟩ := h4 (by intro e; simp [e] at hi)
  obtain ⟨vs, hv, hc⟩ := hh i _ (List.getElem?_eq_getElem hi)
  obtain ⟨v1, v2, rfl, hk, h1, h2⟩ := hv
  exact ⟨b, off, v1, v2, e, hb, hk, h1, h2, hc 0 _ rfl, hc 1 _ rfl, hc 2 _ rfl, hc 3 _ rfl, hc 4 _ rfl, hc 5 _ rfl, hc 6 _ rfl, hc 7 _ rfl⟩

theorem CacEntry.eq_iff (a b : CacEntry) : a = b ↔ a.words = b.words ∧ a.block = b.block := by
  cases a; cases b; simp

structure CerPair where
  base : IrBlock
  made : IrBlock
  deriving DecidableEq

/-- The numbers fit. -/
def CerPair.Ok (o : CerPair) : Prop := Fits o.base.pc ∧ Fits o.base.len ∧ Fits o.base.fin ∧ Fits o.base.x ∧ Fits o.base.y ∧ Fits o.base.k ∧ Fits o.made.pc ∧ Fits o.made.len ∧ Fits o.made.fin ∧ Fits o.made.x ∧ Fits o.made.y ∧ Fits o.made.k

instance : Rep CerPair where
  sz := 14
  rep w S vs o := ∃ v1 v2 : Value, vs = [.int .i64 o.base.pc, .int .i64 o.base.len, v1, .int .i64 o.base.fin, .int .i64 o.base.x, .int .i64 o.base.y, .int .i64 o.base.k, .int .i64 o.made.pc, .int .i64 o.made.len, v2, .int .i64 o.made.fin, .int .i64 o.made.x, .int .i64 o.made.y, .int .i64 o.made.k] ∧ o.Ok ∧ Sl w S v1 o.base.ops ∧ Sl w S v2 o.made.ops
  len h := by obtain ⟨v1, v2, rfl, hk, h1, h2⟩ := h; rfl
  keep h hc hs := by obtain ⟨v1, v2, rfl, hk, h1, h2⟩ := h; exact ⟨v1, v2, rfl, hk, h1.keep hc hs, h2.keep hc hs⟩

instance : Own CerPair where
  own w vs o F := ∃ (v1 v2 : Value) (F1 F2 : List Nat), vs = [.int .i64 o.base.pc, .int .i64 o.base.len, v1, .int .i64 o.base.fin, .int .i64 o.base.x, .int .i64 o.base.y, .int .i64 o.base.k, .int .i64 o.made.pc, .int .i64 o.made.len, v2, .int .i64 o.made.fin, .int .i64 o.made.x, .int .i64 o.made.y, .int .i64 o.made.k] ∧ o.Ok ∧ OwnSl w v1 o.base.ops F1 ∧ OwnSl w v2 o.made.ops F2 ∧ F = F1 ++ F2
  asRep h := by obtain ⟨v1, v2, F1, F2, rfl, hk, h1, h2, rfl⟩ := h; exact ⟨v1, v2, rfl, hk, h1.sl.keep (fun _ _ _ => rfl) (fun b hb => by simp [hb]), h2.sl.keep (fun _ _ _ => rfl) (fun b hb => by simp [hb])⟩
  stay h hF := by obtain ⟨v1, v2, F1, F2, rfl, hk, h1, h2, rfl⟩ := h; exact ⟨v1, v2, F1, F2, rfl, hk, h1.stay (fun b hb => hF b (by simp [hb])), h2.stay (fun b hb => hF b (by simp [hb])), rfl⟩

theorem at_CerPair {w : World} {S : Nat → Prop} {A : Option Addr} {n c : Nat} {l : List CerPair} (h : Sl w S (.slice A n c) l) {i : Nat} (hi : i < l.length) :
    ∃ (b off : Nat) (v1 v2 : Value), A = some ⟨b, off, none⟩ ∧ S b ∧ l[i].Ok ∧ Sl w S v1 l[i].base.ops ∧ Sl w S v2 l[i].made.ops ∧ w.cell? ⟨b, off + i * 14, none⟩ = some (.int .i64 (l[i].base.pc)) ∧ w.cell? ⟨b, off + i * 14 + 1, none⟩ = some (.int .i64 (l[i].base.len)) ∧ w.cell? ⟨b, off + i * 14 + 2, none⟩ = some (v1) ∧ w.cell? ⟨b, off + i * 14 + 3, none⟩ = some (.int .i64 (l[i].base.fin)) ∧ w.cell? ⟨b, off + i * 14 + 4, none⟩ = some (.int .i64 (l[i].base.x)) ∧ w.cell? ⟨b, off + i * 14 + 5, none⟩ = some (.int .i64 (l[i].base.y)) ∧ w.cell? ⟨b, off + i * 14 + 6, none⟩ = some (.int .i64 (l[i].base.k)) ∧ w.cell? ⟨b, off + i * 14 + 7, none⟩ = some (.int .i64 (l[i].made.pc)) ∧ w.cell? ⟨b, off + i * 14 + 8, none⟩ = some (.int .i64 (l[i].made.len)) ∧ w.cell? ⟨b, off + i * 14 + 9, none⟩ = some (v2) ∧ w.cell? ⟨b, off + i * 14 + 10, none⟩ = some (.int .i64 (l[i].made.fin)) ∧ w.cell? ⟨b, off + i * 14 + 11, none⟩ = some (.int .i64 (l[i].made.x)) ∧ w.cell? ⟨b, off + i * 14 + 12, none⟩ = some (.int .i64 (l[i].made.y)) ∧ w.cell? ⟨b, off + i * 14 + 13, none⟩ = some (.int .i64 (l[i].made.k)) := by
  obtain ⟨A', c', h1, _, _, _, h4⟩ := h
  injection h1 with e1 e2 e3
  subst e1
  obtain ⟨b, off, e, hb, hh⟩ := h4 (by intro e; simp [e] at hi)
  obtain ⟨vs, hv, hc⟩ := hh i _ (List.getElem?_eq_getElem hi)
  obtain ⟨v1, v2, rfl, hk, h1, h2⟩ := hv
  exact ⟨b, off, v1, v2, e, hb, hk, h1, h2, hc 0 _ rfl, hc 1 _ rfl, hc 2 _ rfl, hc 3 _ rfl, hc 4 _ rfl, hc 5 _ rfl, hc 6 _ rfl, hc 7 _ rfl, hc 8 _ rfl, hc 9 _ rfl, hc 10 _ rfl, hc 11 _ rfl, hc 12 _ rfl, hc 13 _ rfl⟩

theorem CerPair.eq_iff (a b : CerPair) : a = b ↔ a.base = b.base ∧ a.made = b.made := by
  cases a; cases b; simp

structure MchMach where
  regs : List Int
  pc : Int
  mem : List Int
  save : Int
  lets : Bool
  waits : Bool
  halt : Int
  ins : List Int
  outs : List Int
  count : Int
  deriving DecidableEq

/-- The numbers fit. -/
def MchMach.Ok (o : MchMach) : Prop := Fits o.pc ∧ Fits o.save ∧ Fits o.halt ∧ Fits o.count

instance : Rep MchMach where
  sz := 10
  rep w S vs o := ∃ v1 v2 v3 v4 : Value, vs = [v1, .int .i64 o.pc, v2, .int .i64 o.save, .bool o.lets, .bool o.waits, .int .i64 o.halt, v3, v4, .int .i64 o.count] ∧ o.Ok ∧ Sl w S v1 o.regs ∧ Sl w S v2 o.mem ∧ Sl w S v3 o.ins ∧ Sl w S v4 o.outs
  len h := by obtain ⟨v1, v2, v3, v4, rfl, hk, h1, h2, h3, h4⟩ := h; rfl
  keep h hc hs := by obtain ⟨v1, v2, v3, v4, rfl, hk, h1, h2, h3, h4⟩ := h; exact ⟨v1, v2, v3, v4, rfl, hk, h1.keep hc hs, h2.keep hc hs, h3.keep hc hs, h4.keep hc hs⟩

instance : Own MchMach where
  own w vs o F := ∃ (v1 v2 v3 v4 : Value) (F1 F2 F3 F4 : List Nat), vs = [v1, .int .i64 o.pc, v2, .int .i64 o.save, .bool o.lets, .bool o.waits, .int .i64 o.halt, v3, v4, .int .i64 o.count] ∧ o.Ok ∧ OwnSl w v1 o.regs F1 ∧ OwnSl w v2 o.mem F2 ∧ OwnSl w v3 o.ins F3 ∧ OwnSl w v4 o.outs F4 ∧ F = F1 ++ F2 ++ F3 ++ F4
  asRep h := by obtain ⟨v1, v2, v3, v4, F1, F2, F3, F4, rfl, hk, h1, h2, h3, h4, rfl⟩ := h; exact ⟨v1, v2, v3, v4, rfl, hk, h1.sl.keep (fun _ _ _ => rfl) (fun b hb => by simp [hb]), h2.sl.keep (fun _ _ _ => rfl) (fun b hb => by simp [hb]), h3.sl.keep (fun _ _ _ => rfl) (fun b hb => by simp [hb]), h4.sl.keep (fun _ _ _ => rfl) (fun b hb => by simp [hb])⟩
  stay h hF := by obtain ⟨v1, v2, v3, v4, F1, F2, F3, F4, rfl, hk, h1, h2, h3, h4, rfl⟩ := h; exact ⟨v1, v2, v3, v4, F1, F2, F3, F4, rfl, hk, h1.stay (fun b hb => hF b (by simp [hb])), h2.stay (fun b hb => hF b (by simp [hb])), h3.stay (fun b hb => hF b (by simp [hb])), h4.stay (fun b hb => hF b (by simp [hb])), rfl⟩

theorem at_MchMach {w : World} {S : Nat → Prop} {A : Option Addr} {n c : Nat} {l : List MchMach} (h : Sl w S (.slice A n c) l) {i : Nat} (hi : i < l.length) :
    ∃ (b off : Nat) (v1 v2 v3 v4 : Value), A = some ⟨b, off, none⟩ ∧ S b ∧ l[i].Ok ∧ Sl w S v1 l[i].regs ∧ Sl w S v2 l[i].mem ∧ Sl w S v3 l[i].ins ∧ Sl w S v4 l[i].outs ∧ w.cell? ⟨b, off + i * 10, none⟩ = some (v1) ∧ w.cell? ⟨b, off + i * 10 + 1, none⟩ = some (.int .i64 (l[i].pc)) ∧ w.cell? ⟨b, off + i * 10 + 2, none⟩ = some (v2) ∧ w.cell? ⟨b, off + i * 10 + 3, none⟩ = some (.int .i64 (l[i].save)) ∧ w.cell? ⟨b, off + i * 10 + 4, none⟩ = some (.bool l[i].lets) ∧ w.cell? ⟨b, off + i * 10 + 5, none⟩ = some (.bool l[i].waits) ∧ w.cell? ⟨b, off + i * 10 + 6, none⟩ = some (.int .i64 (l[i].halt)) ∧ w.cell? ⟨b, off + i * 10 + 7, none⟩ = some (v3) ∧ w.cell? ⟨b, off + i * 10 + 8, none⟩ = some (v4) ∧ w.cell? ⟨b, off + i * 10 + 9, none⟩ = some (.int .i64 (l[i].count)) := by
  obtain ⟨A', c', h1, _, _, _, h4⟩ := h
  injection h1 with e1 e2 e3
  subst e1
  obtain ⟨b, off, e, hb, hh⟩ := h4 (by intro e; simp [e] at hi)
  obtain ⟨vs, hv, hc⟩ := hh i _ (List.getElem?_eq_getElem hi)
  obtain ⟨v1, v2, v3, v4, rfl, hk, h1, h2, h3, h4⟩ := hv
  exact ⟨b, off, v1, v2, v3, v4, e, hb, hk, h1, h2, h3, h4, hc 0 _ rfl, hc 1 _ rfl, hc 2 _ rfl, hc 3 _ rfl, hc 4 _ rfl, hc 5 _ rfl, hc 6 _ rfl, hc 7 _ rfl, hc 8 _ rfl, hc 9 _ rfl⟩

theorem MchMach.eq_iff (a b : MchMach) : a = b ↔ a.regs = b.regs ∧ a.pc = b.pc ∧ a.mem = b.mem ∧ a.save = b.save ∧ a.lets = b.lets ∧ a.waits = b.waits ∧ a.halt = b.halt ∧ a.ins = b.ins ∧ a.outs = b.outs ∧ a.count = b.count := by
  cases a; cases b; simp

structure EngEng where
  mach : MchMach
  cache : List CacEntry
  certs : List CerPair
  deriving DecidableEq

/-- The numbers fit. -/
def EngEng.Ok (o : EngEng) : Prop := Fits o.mach.pc ∧ Fits o.mach.save ∧ Fits o.mach.halt ∧ Fits o.mach.count

instance : Rep EngEng where
  sz := 12
  rep w S vs o := ∃ v1 v2 v3 v4 v5 v6 : Value, vs = [v1, .int .i64 o.mach.pc, v2, .int .i64 o.mach.save, .bool o.mach.lets, .bool o.mach.waits, .int .i64 o.mach.halt, v3, v4, .int .i64 o.mach.count, v5, v6] ∧ o.Ok ∧ Sl w S v1 o.mach.regs ∧ Sl w S v2 o.mach.mem ∧ Sl w S v3 o.mach.ins ∧ Sl w S v4 o.mach.outs ∧ Sl w S v5 o.cache ∧ Sl w S v6 o.certs
  len h := by obtain ⟨v1, v2, v3, v4, v5, v6, rfl, hk, h1, h2, h3, h4, h5, h6⟩ := h; rfl
  keep h hc hs := by obtain ⟨v1, v2, v3, v4, v5, v6, rfl, hk, h1, h2, h3, h4, h5, h6⟩ := h; exact ⟨v1, v2, v3, v4, v5, v6, rfl, hk, h1.keep hc hs, h2.keep hc hs, h3.keep hc hs, h4.keep hc hs, h5.keep hc hs, h6.keep hc hs⟩

instance : Own EngEng where
  own w vs o F := ∃ (v1 v2 v3 v4 v5 v6 : Value) (F1 F2 F3 F4 F5 F6 : List Nat), vs = [v1, .int .i64 o.mach.pc, v2, .int .i64 o.mach.save, .bool o.mach.lets, .bool o.mach.waits, .int .i64 o.mach.halt, v3, v4, .int .i64 o.mach.count, v5, v6] ∧ o.Ok ∧ OwnSl w v1 o.mach.regs F1 ∧ OwnSl w v2 o.mach.mem F2 ∧ OwnSl w v3 o.mach.ins F3 ∧ OwnSl w v4 o.mach.outs F4 ∧ OwnSl w v5 o.cache F5 ∧ OwnSl w v6 o.certs F6 ∧ F = F1 ++ F2 ++ F3 ++ F4 ++ F5 ++ F6
  asRep h := by obtain ⟨v1, v2, v3, v4, v5, v6, F1, F2, F3, F4, F5, F6, rfl, hk, h1, h2, h3, h4, h5, h6, rfl⟩ := h; exact ⟨v1, v2, v3, v4, v5, v6, rfl, hk, h1.sl.keep (fun _ _ _ => rfl) (fun b hb => by simp [hb]), h2.sl.keep (fun _ _ _ => rfl) (fun b hb => by simp [hb]), h3.sl.keep (fun _ _ _ => rfl) (fun b hb => by simp [hb]), h4.sl.keep (fun _ _ _ => rfl) (fun b hb => by simp [hb]), h5.sl.keep (fun _ _ _ => rfl) (fun b hb => by simp [hb]), h6.sl.keep (fun _ _ _ => rfl) (fun b hb => by simp [hb])⟩
  stay h hF := by obtain ⟨v1, v2, v3, v4, v5, v6, F1, F2, F3, F4, F5, F6, rfl, hk, h1, h2, h3, h4, h5, h6, rfl⟩ := h; exact ⟨v1, v2, v3, v4, v5, v6, F1, F2, F3, F4, F5, F6, rfl, hk, h1.stay (fun b hb => hF b (by simp [hb])), h2.stay (fun b hb => hF b (by simp [hb])), h3.stay (fun b hb => hF b (by simp [hb])), h4.stay (fun b hb => hF b (by simp [hb])), h5.stay (fun b hb => hF b (by simp [hb])), h6.stay (fun b hb => hF b (by simp [hb])), rfl⟩

theorem at_EngEng {w : World} {S : Nat → Prop} {A : Option Addr} {n c : Nat} {l : List EngEng} (h : Sl w S (.slice A n c) l) {i : Nat} (hi : i < l.length) :
    ∃ (b off : Nat) (v1 v2 v3 v4 v5 v6 : Value), A = some ⟨b, off, none⟩ ∧ S b ∧ l[i].Ok ∧ Sl w S v1 l[i].mach.regs ∧ Sl w S v2 l[i].mach.mem ∧ Sl w S v3 l[i].mach.ins ∧ Sl w S v4 l[i].mach.outs ∧ Sl w S v5 l[i].cache ∧ Sl w S v6 l[i].certs ∧ w.cell? ⟨b, off + i * 12, none⟩ = some (v1) ∧ w.cell? ⟨b, off + i * 12 + 1, none⟩ = some (.int .i64 (l[i].mach.pc)) ∧ w.cell? ⟨b, off + i * 12 + 2, none⟩ = some (v2) ∧ w.cell? ⟨b, off + i * 12 + 3, none⟩ = some (.int .i64 (l[i].mach.save)) ∧ w.cell? ⟨b, off + i * 12 + 4, none⟩ = some (.bool l[i].mach.lets) ∧ w.cell? ⟨b, off + i * 12 + 5, none⟩ = some (.bool l[i].mach.waits) ∧ w.cell? ⟨b, off + i * 12 + 6, none⟩ = some (.int .i64 (l[i].mach.halt)) ∧ w.cell? ⟨b, off + i * 12 + 7, none⟩ = some (v3) ∧ w.cell? ⟨b, off + i * 12 + 8, none⟩ = some (v4) ∧ w.cell? ⟨b, off + i * 12 + 9, none⟩ = some (.int .i64 (l[i].mach.count)) ∧ w.cell? ⟨b, off + i * 12 + 10, none⟩ = some (v5) ∧ w.cell? ⟨b, off + i * 12 + 11, none⟩ = some (v6) := by
  obtain ⟨A', c', h1, _, _, _, h4⟩ := h
  injection h1 with e1 e2 e3
  subst e1
  obtain ⟨b, off, e, hb, hh⟩ := h4 (by intro e; simp [e] at hi)
  obtain ⟨vs, hv, hc⟩ := hh i _ (List.getElem?_eq_getElem hi)
  obtain ⟨v1, v2, v3, v4, v5, v6, rfl, hk, h1, h2, h3, h4, h5, h6⟩ := hv
  exact ⟨b, off, v1, v2, v3, v4, v5, v6, e, hb, hk, h1, h2, h3, h4, h5, h6, hc 0 _ rfl, hc 1 _ rfl, hc 2 _ rfl, hc 3 _ rfl, hc 4 _ rfl, hc 5 _ rfl, hc 6 _ rfl, hc 7 _ rfl, hc 8 _ rfl, hc 9 _ rfl, hc 10 _ rfl, hc 11 _ rfl⟩

theorem EngEng.eq_iff (a b : EngEng) : a = b ↔ a.mach = b.mach ∧ a.cache = b.cache ∧ a.certs = b.certs := by
  cases a; cases b; simp

structure TrmMono where
  coef : Int
  atoms : List Int
  deriving DecidableEq

/-- The numbers fit. -/
def TrmMono.Ok (o : TrmMono) : Prop := Fits o.coef

instance : Rep TrmMono where
  sz := 2
  rep w S vs o := ∃ v1 : Value, vs = [.int .i64 o.coef, v1] ∧ o.Ok ∧ Sl w S v1 o.atoms
  len h := by obtain ⟨v1, rfl, hk, h1⟩ := h; rfl
  keep h hc hs := by obtain ⟨v1, rfl, hk, h1⟩ := h; exact ⟨v1, rfl, hk, h1.keep hc hs⟩

instance : Own TrmMono where
  own w vs o F := ∃ (v1 : Value), vs = [.int .i64 o.coef, v1] ∧ o.Ok ∧ OwnSl w v1 o.atoms F
  asRep h := by obtain ⟨v1, rfl, hk, h1⟩ := h; exact ⟨v1, rfl, hk, h1.sl.keep (fun _ _ _ => rfl) (fun b hb => by simp [hb])⟩
  stay h hF := by obtain ⟨v1, rfl, hk, h1⟩ := h; exact ⟨v1, rfl, hk, h1.stay (fun b hb => hF b (by simp [hb]))⟩

theorem at_TrmMono {w : World} {S : Nat → Prop} {A : Option Addr} {n c : Nat} {l : List TrmMono} (h : Sl w S (.slice A n c) l) {i : Nat} (hi : i < l.length) :
    ∃ (b off : Nat) (v1 : Value), A = some ⟨b, off, none⟩ ∧ S b ∧ l[i].Ok ∧ Sl w S v1 l[i].atoms ∧ w.cell? ⟨b, off + i * 2, none⟩ = some (.int .i64 (l[i].coef)) ∧ w.cell? ⟨b, off + i * 2 + 1, none⟩ = some (v1) := by
  obtain ⟨A', c', h1, _, _, _, h4⟩ := h
  injection h1 with e1 e2 e3
  subst e1
  obtain ⟨b, off, e, hb, hh⟩ := h4 (by intro e; simp [e] at hi)
  obtain ⟨vs, hv, hc⟩ := hh i _ (List.getElem?_eq_getElem hi)
  obtain ⟨v1, rfl, hk, h1⟩ := hv
  exact ⟨b, off, v1, e, hb, hk, h1, hc 0 _ rfl, hc 1 _ rfl⟩

theorem TrmMono.eq_iff (a b : TrmMono) : a = b ↔ a.coef = b.coef ∧ a.atoms = b.atoms := by
  cases a; cases b; simp

structure TrmPoly where
  monos : List TrmMono
  deriving DecidableEq

/-- The numbers fit. -/
def TrmPoly.Ok (o : TrmPoly) : Prop := True

instance : Rep TrmPoly where
  sz := 1
  rep w S vs o := ∃ v1 : Value, vs = [v1] ∧ o.Ok ∧ Sl w S v1 o.monos
  len h := by obtain ⟨v1, rfl, hk, h1⟩ := h; rfl
  keep h hc hs := by obtain ⟨v1, rfl, hk, h1⟩ := h; exact ⟨v1, rfl, hk, h1.keep hc hs⟩

instance : Own TrmPoly where
  own w vs o F := ∃ (v1 : Value), vs = [v1] ∧ o.Ok ∧ OwnSl w v1 o.monos F
  asRep h := by obtain ⟨v1, rfl, hk, h1⟩ := h; exact ⟨v1, rfl, hk, h1.sl.keep (fun _ _ _ => rfl) (fun b hb => by simp [hb])⟩
  stay h hF := by obtain ⟨v1, rfl, hk, h1⟩ := h; exact ⟨v1, rfl, hk, h1.stay (fun b hb => hF b (by simp [hb]))⟩

theorem at_TrmPoly {w : World} {S : Nat → Prop} {A : Option Addr} {n c : Nat} {l : List TrmPoly} (h : Sl w S (.slice A n c) l) {i : Nat} (hi : i < l.length) :
    ∃ (b off : Nat) (v1 : Value), A = some ⟨b, off, none⟩ ∧ S b ∧ l[i].Ok ∧ Sl w S v1 l[i].monos ∧ w.cell? ⟨b, off + i, none⟩ = some (v1) := by
  obtain ⟨A', c', h1, _, _, _, h4⟩ := h
  injection h1 with e1 e2 e3
  subst e1
  obtain ⟨b, off, e, hb, hh⟩ := h4 (by intro e; simp [e] at hi)
  obtain ⟨vs, hv, hc⟩ := hh i _ (List.getElem?_eq_getElem hi)
  obtain ⟨v1, rfl, hk, h1⟩ := hv
  exact ⟨b, off, v1, e, hb, hk, h1, by simpa [Rep.sz] using hc 0 _ rfl⟩

theorem TrmPoly.eq_iff (a b : TrmPoly) : a = b ↔ a.monos = b.monos := by
  cases a; cases b; simp

structure TabAtom where
  kind : Int
  k : Int
  x : TrmPoly
  y : TrmPoly
  deriving DecidableEq

/-- The numbers fit. -/
def TabAtom.Ok (o : TabAtom) : Prop := Fits o.kind ∧ Fits o.k

instance : Rep TabAtom where
  sz := 4
  rep w S vs o := ∃ v1 v2 : Value, vs = [.int .i64 o.kind, .int .i64 o.k, v1, v2] ∧ o.Ok ∧ Sl w S v1 o.x.monos ∧ Sl w S v2 o.y.monos
  len h := by obtain ⟨v1, v2, rfl, hk, h1, h2⟩ := h; rfl
  keep h hc hs := by obtain ⟨v1, v2, rfl, hk, h1, h2⟩ := h; exact ⟨v1, v2, rfl, hk, h1.keep hc hs, h2.keep hc hs⟩

instance : Own TabAtom where
  own w vs o F := ∃ (v1 v2 : Value) (F1 F2 : List Nat), vs = [.int .i64 o.kind, .int .i64 o.k, v1, v2] ∧ o.Ok ∧ OwnSl w v1 o.x.monos F1 ∧ OwnSl w v2 o.y.monos F2 ∧ F = F1 ++ F2
  asRep h := by obtain ⟨v1, v2, F1, F2, rfl, hk, h1, h2, rfl⟩ := h; exact ⟨v1, v2, rfl, hk, h1.sl.keep (fun _ _ _ => rfl) (fun b hb => by simp [hb]), h2.sl.keep (fun _ _ _ => rfl) (fun b hb => by simp [hb])⟩
  stay h hF := by obtain ⟨v1, v2, F1, F2, rfl, hk, h1, h2, rfl⟩ := h; exact ⟨v1, v2, F1, F2, rfl, hk, h1.stay (fun b hb => hF b (by simp [hb])), h2.stay (fun b hb => hF b (by simp [hb])), rfl⟩

theorem at_TabAtom {w : World} {S : Nat → Prop} {A : Option Addr} {n c : Nat} {l : List TabAtom} (h : Sl w S (.slice A n c) l) {i : Nat} (hi : i < l.length) :
    ∃ (b off : Nat) (v1 v2 : Value), A = some ⟨b, off, none⟩ ∧ S b ∧ l[i].Ok ∧ Sl w S v1 l[i].x.monos ∧ Sl w S v2 l[i].y.monos ∧ w.cell? ⟨b, off + i * 4, none⟩ = some (.int .i64 (l[i].kind)) ∧ w.cell? ⟨b, off + i * 4 + 1, none⟩ = some (.int .i64 (l[i].k)) ∧ w.cell? ⟨b, off + i * 4 + 2, none⟩ = some (v1) ∧ w.cell? ⟨b, off + i * 4 + 3, none⟩ = some (v2) := by
  obtain ⟨A', c', h1, _, _, _, h4⟩ := h
  injection h1 with e1 e2 e3
  subst e1
  obtain ⟨b, off, e, hb, hh⟩ := h4 (by intro e; simp [e] at hi)
  obtain ⟨vs, hv, hc⟩ := hh i _ (List.getElem?_eq_getElem hi)
  obtain ⟨v1, v2, rfl, hk, h1, h2⟩ := hv
  exact ⟨b, off, v1, v2, e, hb, hk, h1, h2, hc 0 _ rfl, hc 1 _ rfl, hc 2 _ rfl, hc 3 _ rfl⟩

theorem TabAtom.eq_iff (a b : TabAtom) : a = b ↔ a.kind = b.kind ∧ a.k = b.k ∧ a.x = b.x ∧ a.y = b.y := by
  cases a; cases b; simp

structure TabTab where
  atoms : List TabAtom
  deriving DecidableEq

/-- The numbers fit. -/
def TabTab.Ok (o : TabTab) : Prop := True

instance : Rep TabTab where
  sz := 1
  rep w S vs o := ∃ v1 : Value, vs = [v1] ∧ o.Ok ∧ Sl w S v1 o.atoms
  len h := by obtain ⟨v1, rfl, hk, h1⟩ := h; rfl
  keep h hc hs := by obtain ⟨v1, rfl, hk, h1⟩ := h; exact ⟨v1, rfl, hk, h1.keep hc hs⟩

instance : Own TabTab where
  own w vs o F := ∃ (v1 : Value), vs = [v1] ∧ o.Ok ∧ OwnSl w v1 o.atoms F
  asRep h := by obtain ⟨v1, rfl, hk, h1⟩ := h; exact ⟨v1, rfl, hk, h1.sl.keep (fun _ _ _ => rfl) (fun b hb => by simp [hb])⟩
  stay h hF := by obtain ⟨v1, rfl, hk, h1⟩ := h; exact ⟨v1, rfl, hk, h1.stay (fun b hb => hF b (by simp [hb]))⟩

theorem at_TabTab {w : World} {S : Nat → Prop} {A : Option Addr} {n c : Nat} {l : List TabTab} (h : Sl w S (.slice A n c) l) {i : Nat} (hi : i < l.length) :
    ∃ (b off : Nat) (v1 : Value), A = some ⟨b, off, none⟩ ∧ S b ∧ l[i].Ok ∧ Sl w S v1 l[i].atoms ∧ w.cell? ⟨b, off + i, none⟩ = some (v1) := by
  obtain ⟨A', c', h1, _, _, _, h4⟩ := h
  injection h1 with e1 e2 e3
  subst e1
  obtain ⟨b, off, e, hb, hh⟩ := h4 (by intro e; simp [e] at hi)
  obtain ⟨vs, hv, hc⟩ := hh i _ (List.getElem?_eq_getElem hi)
  obtain ⟨v1, rfl, hk, h1⟩ := hv
  exact ⟨b, off, v1, e, hb, hk, h1, by simpa [Rep.sz] using hc 0 _ rfl⟩

theorem TabTab.eq_iff (a b : TabTab) : a = b ↔ a.atoms = b.atoms := by
  cases a; cases b; simp

structure SymEvent where
  kind : Int
  at_ : Int
  x : TrmPoly
  y : TrmPoly
  regs : List TrmPoly
  deriving DecidableEq

/-- The numbers fit. -/
def SymEvent.Ok (o : SymEvent) : Prop := Fits o.kind ∧ Fits o.at_

instance : Rep SymEvent where
  sz := 5
  rep w S vs o := ∃ v1 v2 v3 : Value, vs = [.int .i64 o.kind, .int .i64 o.at_, v1, v2, v3] ∧ o.Ok ∧ Sl w S v1 o.x.monos ∧ Sl w S v2 o.y.monos ∧ Sl w S v3 o.regs
  len h := by obtain ⟨v1, v2, v3, rfl, hk, h1, h2, h3⟩ := h; rfl
  keep h hc hs := by obtain ⟨v1, v2, v3, rfl, hk, h1, h2, h3⟩ := h; exact ⟨v1, v2, v3, rfl, hk, h1.keep hc hs, h2.keep hc hs, h3.keep hc hs⟩

instance : Own SymEvent where
  own w vs o F := ∃ (v1 v2 v3 : Value) (F1 F2 F3 : List Nat), vs = [.int .i64 o.kind, .int .i64 o.at_, v1, v2, v3] ∧ o.Ok ∧ OwnSl w v1 o.x.monos F1 ∧ OwnSl w v2 o.y.monos F2 ∧ OwnSl w v3 o.regs F3 ∧ F = F1 ++ F2 ++ F3
  asRep h := by obtain ⟨v1, v2, v3, F1, F2, F3, rfl, hk, h1, h2, h3, rfl⟩ := h; exact ⟨v1, v2, v3, rfl, hk, h1.sl.keep (fun _ _ _ => rfl) (fun b hb => by simp [hb]), h2.sl.keep (fun _ _ _ => rfl) (fun b hb => by simp [hb]), h3.sl.keep (fun _ _ _ => rfl) (fun b hb => by simp [hb])⟩
  stay h hF := by obtain ⟨v1, v2, v3, F1, F2, F3, rfl, hk, h1, h2, h3, rfl⟩ := h; exact ⟨v1, v2, v3, F1, F2, F3, rfl, hk, h1.stay (fun b hb => hF b (by simp [hb])), h2.stay (fun b hb => hF b (by simp [hb])), h3.stay (fun b hb => hF b (by simp [hb])), rfl⟩

theorem at_SymEvent {w : World} {S : Nat → Prop} {A : Option Addr} {n c : Nat} {l : List SymEvent} (h : Sl w S (.slice A n c) l) {i : Nat} (hi : i < l.length) :
    ∃ (b off : Nat) (v1 v2 v3 : Value), A = some ⟨b, off, none⟩ ∧ S b ∧ l[i].Ok ∧ Sl w S v1 l[i].x.monos ∧ Sl w S v2 l[i].y.monos ∧ Sl w S v3 l[i].regs ∧ w.cell? ⟨b, off + i * 5, none⟩ = some (.int .i64 (l[i].kind)) ∧ w.cell? ⟨b, off + i * 5 + 1, none⟩ = some (.int .i64 (l[i].at_)) ∧ w.cell? ⟨b, off + i * 5 + 2, none⟩ = some (v1) ∧ w.cell? ⟨b, off + i * 5 + 3, none⟩ = some (v2) ∧ w.cell? ⟨b, off + i * 5 + 4, none⟩ = some (v3) := by
  obtain ⟨A', c', h1, _, _, _, h4⟩ := h
  injection h1 with e1 e2 e3
  subst e1
  obtain ⟨b, off, e, hb, hh⟩ := h4 (by intro e; simp [e] at hi)
  obtain ⟨vs, hv, hc⟩ := hh i _ (List.getElem?_eq_getElem hi)
  obtain ⟨v1, v2, v3, rfl, hk, h1, h2, h3⟩ := hv
  exact ⟨b, off, v1, v2, v3, e, hb, hk, h1, h2, h3, hc 0 _ rfl, hc 1 _ rfl, hc 2 _ rfl, hc 3 _ rfl, hc 4 _ rfl⟩

theorem SymEvent.eq_iff (a b : SymEvent) : a = b ↔ a.kind = b.kind ∧ a.at_ = b.at_ ∧ a.x = b.x ∧ a.y = b.y ∧ a.regs = b.regs := by
  cases a; cases b; simp

structure SymSym where
  events : List SymEvent
  regs : List TrmPoly
  fin : Int
  x : TrmPoly
  y : TrmPoly
  k : Int
  deriving DecidableEq

/-- The numbers fit. -/
def SymSym.Ok (o : SymSym) : Prop := Fits o.fin ∧ Fits o.k

instance : Rep SymSym where
  sz := 6
  rep w S vs o := ∃ v1 v2 v3 v4 : Value, vs = [v1, v2, .int .i64 o.fin, v3, v4, .int .i64 o.k] ∧ o.Ok ∧ Sl w S v1 o.events ∧ Sl w S v2 o.regs ∧ Sl w S v3 o.x.monos ∧ Sl w S v4 o.y.monos
  len h := by obtain ⟨v1, v2, v3, v4, rfl, hk, h1, h2, h3, h4⟩ := h; rfl
  keep h hc hs := by obtain ⟨v1, v2, v3, v4, rfl, hk, h1, h2, h3, h4⟩ := h; exact ⟨v1, v2, v3, v4, rfl, hk, h1.keep hc hs, h2.keep hc hs, h3.keep hc hs, h4.keep hc hs⟩

instance : Own SymSym where
  own w vs o F := ∃ (v1 v2 v3 v4 : Value) (F1 F2 F3 F4 : List Nat), vs = [v1, v2, .int .i64 o.fin, v3, v4, .int .i64 o.k] ∧ o.Ok ∧ OwnSl w v1 o.events F1 ∧ OwnSl w v2 o.regs F2 ∧ OwnSl w v3 o.x.monos F3 ∧ OwnSl w v4 o.y.monos F4 ∧ F = F1 ++ F2 ++ F3 ++ F4
  asRep h := by obtain ⟨v1, v2, v3, v4, F1, F2, F3, F4, rfl, hk, h1, h2, h3, h4, rfl⟩ := h; exact ⟨v1, v2, v3, v4, rfl, hk, h1.sl.keep (fun _ _ _ => rfl) (fun b hb => by simp [hb]), h2.sl.keep (fun _ _ _ => rfl) (fun b hb => by simp [hb]), h3.sl.keep (fun _ _ _ => rfl) (fun b hb => by simp [hb]), h4.sl.keep (fun _ _ _ => rfl) (fun b hb => by simp [hb])⟩
  stay h hF := by obtain ⟨v1, v2, v3, v4, F1, F2, F3, F4, rfl, hk, h1, h2, h3, h4, rfl⟩ := h; exact ⟨v1, v2, v3, v4, F1, F2, F3, F4, rfl, hk, h1.stay (fun b hb => hF b (by simp [hb])), h2.stay (fun b hb => hF b (by simp [hb])), h3.stay (fun b hb => hF b (by simp [hb])), h4.stay (fun b hb => hF b (by simp [hb])), rfl⟩

theorem at_SymSym {w : World} {S : Nat → Prop} {A : Option Addr} {n c : Nat} {l : List SymSym} (h : Sl w S (.slice A n c) l) {i : Nat} (hi : i < l.length) :
    ∃ (b off : Nat) (v1 v2 v3 v4 : Value), A = some ⟨b, off, none⟩ ∧ S b ∧ l[i].Ok ∧ Sl w S v1 l[i].events ∧ Sl w S v2 l[i].regs ∧ Sl w S v3 l[i].x.monos ∧ Sl w S v4 l[i].y.monos ∧ w.cell? ⟨b, off + i * 6, none⟩ = some (v1) ∧ w.cell? ⟨b, off + i * 6 + 1, none⟩ = some (v2) ∧ w.cell? ⟨b, off + i * 6 + 2, none⟩ = some (.int .i64 (l[i].fin)) ∧ w.cell? ⟨b, off + i * 6 + 3, none⟩ = some (v3) ∧ w.cell? ⟨b, off + i * 6 + 4, none⟩ = some (v4) ∧ w.cell? ⟨b, off + i * 6 + 5, none⟩ = some (.int .i64 (l[i].k)) := by
  obtain ⟨A', c', h1, _, _, _, h4⟩ := h
  injection h1 with e1 e2 e3
  subst e1
  obtain ⟨b, off, e, hb, hh⟩ := h4 (by intro e; simp [e] at hi)
  obtain ⟨vs, hv, hc⟩ := hh i _ (List.getElem?_eq_getElem hi)
  obtain ⟨v1, v2, v3, v4, rfl, hk, h1, h2, h3, h4⟩ := hv
  exact ⟨b, off, v1, v2, v3, v4, e, hb, hk, h1, h2, h3, h4, hc 0 _ rfl, hc 1 _ rfl, hc 2 _ rfl, hc 3 _ rfl, hc 4 _ rfl, hc 5 _ rfl⟩

theorem SymSym.eq_iff (a b : SymSym) : a = b ↔ a.events = b.events ∧ a.regs = b.regs ∧ a.fin = b.fin ∧ a.x = b.x ∧ a.y = b.y ∧ a.k = b.k := by
  cases a; cases b; simp

instance : Bulk IrOp := ⟨fun _ => 0⟩

instance : Bulk IrBlock := ⟨fun o => Bulk.blk o.ops⟩

instance : Bulk CacEntry := ⟨fun o => Bulk.blk o.words + Bulk.blk o.block⟩

instance : Bulk CerPair := ⟨fun o => Bulk.blk o.base + Bulk.blk o.made⟩

instance : Bulk MchMach := ⟨fun o => Bulk.blk o.regs + Bulk.blk o.mem + Bulk.blk o.ins + Bulk.blk o.outs⟩

instance : Bulk EngEng := ⟨fun o => Bulk.blk o.mach + Bulk.blk o.cache + Bulk.blk o.certs⟩

instance : Bulk TrmMono := ⟨fun o => Bulk.blk o.atoms⟩

instance : Bulk TrmPoly := ⟨fun o => Bulk.blk o.monos⟩

instance : Bulk TabAtom := ⟨fun o => Bulk.blk o.x + Bulk.blk o.y⟩

instance : Bulk TabTab := ⟨fun o => Bulk.blk o.atoms⟩

instance : Bulk SymEvent := ⟨fun o => Bulk.blk o.x + Bulk.blk o.y + Bulk.blk o.regs⟩

instance : Bulk SymSym := ⟨fun o => Bulk.blk o.events + Bulk.blk o.regs + Bulk.blk o.x + Bulk.blk o.y⟩

end Go.Proofs.Ytpneijbjheeobaa
