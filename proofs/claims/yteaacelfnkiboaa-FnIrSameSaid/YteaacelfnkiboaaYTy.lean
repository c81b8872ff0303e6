/-
  Ty
-/
import Derived.Test.YteaacelfnkiboaaYLib
namespace Go.Proofs.Yteaacelfnkiboaa
open Go.RowKit

set_option linter.unusedVariables false
set_option linter.unusedSimpArgs false
set_option maxRecDepth 100000

theorem at_Int {w : World} {S : Nat → Prop} {A : Option Addr} {n c : Nat} {l : List Int} (h : Sl w S (.slice A n c) l) {i : Nat} (hi : i < l.length) :
    ∃ (b off : Nat), A = some ⟨b, off, none⟩ ∧ S b ∧ Fits l[i] ∧ w.cell? ⟨b, off + i, none⟩ = some (.int .i64 (l[i])) := by
  obtain ⟨A', c', h1, _, _, _, h4⟩ := h
  injection h1 with e1 e2 e3
  subst e1
  obtain ⟨b, off, e, hb, hh⟩ := h4 (by intro e; simp [e] at hi)
  obtain ⟨vs, hv, hc⟩ := hh i _ (List.getElem?_eq_getElem hi)
  obtain ⟨rfl, hk⟩ := hv
  exact ⟨b, off, e, hb, hk, by simpa [Rep.sz] using hc 0 _ rfl⟩

theorem at_Bool {w : World} {S : Nat → Prop} {A : Option Addr} {n c : Nat} {l : List Bool} (h : Sl w S (.slice A n c) l) {i : Nat} (hi : i < l.length) :
    ∃ (b off : Nat), A = some ⟨b, off, none⟩ ∧ S b ∧ w.cell? ⟨b, off + i, none⟩ = some (.bool l[i]) := by
  obtain ⟨A', c', h1, _, _, _, h4⟩ := h
  injection h1 with e1 e2 e3
  subst e1
  obtain ⟨b, off, e, hb, hh⟩ := h4 (by intro e; simp [e] at hi)
  obtain ⟨vs, hv, hc⟩ := hh i _ (List.getElem?_eq_getElem hi)
  obtain rfl := hv
  exact ⟨b, off, e, hb, by simpa [Rep.sz] using hc 0 _ rfl⟩

theorem at_UInt8 {w : World} {S : Nat → Prop} {A : Option Addr} {n c : Nat} {l : List UInt8} (h : Sl w S (.slice A n c) l) {i : Nat} (hi : i < l.length) :
    ∃ (b off : Nat), A = some ⟨b, off, none⟩ ∧ S b ∧ w.cell? ⟨b, off + i, none⟩ = some (.int .u8 (l[i].toNat : Int)) := by
  obtain ⟨A', c', h1, _, _, _, h4⟩ := h
  injection h1 with e1 e2 e3
  subst e1
  obtain ⟨b, off, e, hb, hh⟩ := h4 (by intro e; simp [e] at hi)
  obtain ⟨vs, hv, hc⟩ := hh i _ (List.getElem?_eq_getElem hi)
  obtain rfl := hv
  exact ⟨b, off, e, hb, by simpa [Rep.sz] using hc 0 _ rfl⟩

structure IrOp where
  kind : Int
  x : Int
  y : Int
  k : Int
  at_ : Int
  deriving DecidableEq

/-- The numbers fit. -/
def IrOp.Ok (o : IrOp) : Prop := Fits o.kind ∧ Fits o.x ∧ Fits o.y ∧ Fits o.k ∧ Fits o.at_

instance : Rep IrOp where
  sz := 5
  rep _ _ vs o := vs = [.int .i64 o.kind, .int .i64 o.x, .int .i64 o.y, .int .i64 o.k, .int .i64 o.at_] ∧ o.Ok
  len h := by obtain ⟨rfl, hk⟩ := h; rfl
  keep h _ _ := h
instance : Own IrOp where
  own _ vs o F := vs = [.int .i64 o.kind, .int .i64 o.x, .int .i64 o.y, .int .i64 o.k, .int .i64 o.at_] ∧ o.Ok ∧ F = []
  asRep h := ⟨h.1, h.2.1⟩
  stay h _ := h

theorem at_IrOp {w : World} {S : Nat → Prop} {A : Option Addr} {n c : Nat} {l : List IrOp} (h : Sl w S (.slice A n c) l) {i : Nat} (hi : i < l.length) :
    ∃ (b off : Nat), A = some ⟨b, off, none⟩ ∧ S b ∧ l[i].Ok ∧ w.cell? ⟨b, off + i * 5, none⟩ = some (.int .i64 (l[i].kind)) ∧ w.cell? ⟨b, off + i * 5 + 1, none⟩ = some (.int .i64 (l[i].x)) ∧ w.cell? ⟨b, off + i * 5 + 2, none⟩ = some (.int .i64 (l[i].y)) ∧ w.cell? ⟨b, off + i * 5 + 3, none⟩ = some (.int .i64 (l[i].k)) ∧ w.cell? ⟨b, off + i * 5 + 4, none⟩ = some (.int .i64 (l[i].at_)) := by
  obtain ⟨A', c', h1, _, _, _, h4⟩ := h
  injection h1 with e1 e2 e3
  subst e1
  obtain ⟨b, off, e, hb, hh⟩ := h4 (by intro e; simp [e] at hi)
  obtain ⟨vs, hv, hc⟩ := hh i _ (List.getElem?_eq_getElem hi)
  obtain ⟨rfl, hk⟩ := hv
  exact ⟨b, off, e, hb, hk, hc 0 _ rfl, hc 1 _ rfl, hc 2 _ rfl, hc 3 _ rfl, hc 4 _ rfl⟩

theorem IrOp.eq_iff (a b : IrOp) : a = b ↔ a.kind = b.kind ∧ a.x = b.x ∧ a.y = b.y ∧ a.k = b.k ∧ a.at_ = b.at_ := by
  cases a; cases b; simp

structure IrBlock where
  pc : Int
  len : Int
  ops : List IrOp
  fin : Int
  x : Int
  y : Int
  k : Int
  deriving DecidableEq

/-- The numbers fit. -/
def IrBlock.Ok (o : IrBlock) : Prop := Fits o.pc ∧ Fits o.len ∧ Fits o.fin ∧ Fits o.x ∧ Fits o.y ∧ Fits o.k

instance : Rep IrBlock where
  sz := 7
  rep w S vs o := ∃ v1 : Value, vs = [.int .i64 o.pc, .int .i64 o.len, v1, .int .i64 o.fin, .int .i64 o.x, .int .i64 o.y, .int .i64 o.k] ∧ o.Ok ∧ Sl w S v1 o.ops
  len h := by obtain ⟨v1, rfl, hk, h1⟩ := h; rfl
  keep h hc hs := by obtain ⟨v1, rfl, hk, h1⟩ := h; exact ⟨v1, rfl, hk, h1.keep hc hs⟩

instance : Own IrBlock where
  own w vs o F := ∃ (v1 : Value), vs = [.int .i64 o.pc, .int .i64 o.len, v1, .int .i64 o.fin, .int .i64 o.x, .int .i64 o.y, .int .i64 o.k] ∧ o.Ok ∧ OwnSl w v1 o.ops F
  asRep h := by obtain ⟨v1, rfl, hk, h1⟩ := h; exact ⟨v1, rfl, hk, h1.sl.keep (fun _ _ _ => rfl) (fun b hb => by simp [hb])⟩
  stay h hF := by obtain ⟨v1, rfl, hk, h1⟩ := h; exact ⟨v1, rfl, hk, h1.stay (fun b hb => hF b (by simp [hb]))⟩

theorem IrBlock.eq_iff (a b : IrBlock) : a = b ↔ a.pc = b.pc ∧ a.len = b.len ∧ a.ops = b.ops ∧ a.fin = b.fin ∧ a.x = b.x ∧ a.y = b.y ∧ a.k = b.k := by
  cases a; cases b; simp

structure MchMach where
  regs : List Int
  pc : Int
  mem : List Int
  save : Int
  lets : Bool
  waits : Bool
  halt : Int
  ins : List Int
  outs : List Int
  count : Int
  deriving DecidableEq

/-- The numbers fit. -/
def MchMach.Ok (o : MchMach) : Prop := Fits o.pc ∧ Fits o.save ∧ Fits o.halt ∧ Fits o.count

instance : Rep MchMach where
  sz := 10
  rep w S vs o := ∃ v1 v2 v3 v4 : Value, vs = [v1, .int .i64 o.pc, v2, .int .i64 o.save, .bool o.lets, .bool o.waits, .int .i64 o.halt, v3, v4, .int .i64 o.count] ∧ o.Ok ∧ Sl w S v1 o.regs ∧ Sl w S v2 o.mem ∧ Sl w S v3 o.ins ∧ Sl w S v4 o.outs
  len h := by obtain ⟨v1, v2, v3, v4, rfl, hk, h1, h2, h3, h4⟩ := h; rfl
  keep h hc hs := by obtain ⟨v1, v2, v3, v4, rfl, hk, h1, h2, h3, h4⟩ := h; exact ⟨v1, v2, v3, v4, rfl, hk, h1.keep hc hs, h2.keep hc hs, h3.keep hc hs, h4.keep hc hs⟩

instance : Own MchMach where
  own w vs o F := ∃ (v1 v2 v3 v4 : Value) (F1 F2 F3 F4 : List Nat), vs = [v1, .int .i64 o.pc, v2, .int .i64 o.save, .bool o.lets, .bool o.waits, .int .i64 o.halt, v3, v4, .int .i64 o.count] ∧ o.Ok ∧ OwnSl w v1 o.regs F1 ∧ OwnSl w v2 o.mem F2 ∧ OwnSl w v3 o.ins F3 ∧ OwnSl w v4 o.outs F4 ∧ F = F1 ++ F2 ++ F3 ++ F4
  asRep h := by obtain ⟨v1, v2, v3, v4, F1, F2, F3, F4, rfl, hk, h1, h2, h3, h4, rfl⟩ := h; exact ⟨v1, v2, v3, v4, rfl, hk, h1.sl.keep (fun _ _ _ => rfl) (fun b hb => by simp [hb]), h2.sl.keep (fun _ _ _ => rfl) (fun b hb => by simp [hb]), h3.sl.keep (fun _ _ _ => rfl) (fun b hb => by simp [hb]), h4.sl.keep (fun _ _ _ => rfl) (fun b hb => by simp [hb])⟩
  stay h hF := by obtain ⟨v1, v2, v3, v4, F1, F2, F3, F4, rfl, hk, h1, h2, h3, h4, rfl⟩ := h; exact ⟨v1, v2, v3, v4, F1, F2, F3, F4, rfl, hk, h1.stay (fun b hb => hF b (by simp [hb])), h2.stay (fun b hb => hF b (by simp [hb])), h3.stay (fun b hb => hF b (by simp [hb])), h4.stay (fun b hb => hF b (by simp [hb])), rfl⟩

theorem MchMach.eq_iff (a b : MchMach) : a = b ↔ a.regs = b.regs ∧ a.pc = b.pc ∧ a.mem = b.mem ∧ a.save = b.save ∧ a.lets = b.lets ∧ a.waits = b.waits ∧ a.halt = b.halt ∧ a.ins = b.ins ∧ a.outs = b.outs ∧ a.count = b.count := by
  cases a; cases b; simp

structure InsIns where
  op : Int
  d : Int
  a : Int
  k : Int
  deriving DecidableEq

/-- The numbers fit. -/
def InsIns.Ok (o : InsIns) : Prop := Fits o.op ∧ Fits o.d ∧ Fits o.a ∧ Fits o.k

instance : Rep InsIns where
  sz := 4
  rep _ _ vs o := vs = [.int .i64 o.op, .int .i64 o.d, .int .i64 o.a, .int .i64 o.k] ∧ o.Ok
  len h := by obtain ⟨rfl, hk⟩ := h; rfl
  keep h _ _ := h
instance : Own InsIns where
  own _ vs o F := vs = [.int .i64 o.op, .int .i64 o.d, .int .i64 o.a, .int .i64 o.k] ∧ o.Ok ∧ F = []
  asRep h := ⟨h.1, h.2.1⟩
  stay h _ := h

theorem at_InsIns {w : World} {S : Nat → Prop} {A : Option Addr} {n c : Nat} {l : List InsIns} (h : Sl w S (.slice A n c) l) {i : Nat} (hi : i < l.length) :
    ∃ (b off : Nat), A = some ⟨b, off, none⟩ ∧ S b ∧ l[i].Ok ∧ w.cell? ⟨b, off + i * 4, none⟩ = some (.int .i64 (l[i].op)) ∧ w.cell? ⟨b, off + i * 4 + 1, none⟩ = some (.int .i64 (l[i].d)) ∧ w.cell? ⟨b, off + i * 4 + 2, none⟩ = some (.int .i64 (l[i].a)) ∧ w.cell? ⟨b, off + i * 4 + 3, none⟩ = some (.int .i64 (l[i].k)) := by
  obtain ⟨A', c', h1, _, _, _, h4⟩ := h
  injection h1 with e1 e2 e3
  subst e1
  obtain ⟨b, off, e, hb, hh⟩ := h4 (by intro e; simp [e] at hi)
  obtain ⟨vs, hv, hc⟩ := hh i _ (List.getElem?_eq_getElem hi)
  obtain ⟨rfl, hk⟩ := hv
  exact ⟨b, off, e, hb, hk, hc 0 _ rfl, hc 1 _ rfl, hc 2 _ rfl, hc 3 _ rfl⟩

theorem InsIns.eq_iff (a b : InsIns) : a = b ↔ a.op = b.op ∧ a.d = b.d ∧ a.a = b.a ∧ a.k = b.k := by
  cases a; cases b; simp

instance : Bulk IrOp := ⟨fun _ => 0⟩

instance : Bulk IrBlock := ⟨fun o => Bulk.blk o.ops⟩

instance : Bulk MchMach := ⟨fun o => Bulk.blk o.regs + Bulk.blk o.mem + Bulk.blk o.ins + Bulk.blk o.outs⟩

instance : Bulk InsIns := ⟨fun _ => 0⟩

end Go.Proofs.Yteaacelfnkiboaa
