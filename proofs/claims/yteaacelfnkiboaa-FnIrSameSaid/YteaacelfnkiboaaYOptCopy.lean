/-
  OptCopy
-/
import Derived.Test.YteaacelfnkiboaaYOptDead
import Derived.Test.YteaacelfnkiboaaYAlias
import Derived.Test.YteaacelfnkiboaaYDrop
import Derived.Test.YteaacelfnkiboaaYByteLib
namespace Go.Proofs.Yteaacelfnkiboaa
open Go.RowKit

set_option linter.unusedVariables false
set_option linter.unusedSimpArgs false
set_option maxRecDepth 100000

theorem gI_in (l : List Int) (x : Int) (h : x.toNat < l.length) : l[x.toNat] = gI l x := by
  unfold gI
  rw [List.getElem?_eq_getElem h]; rfl
theorem cp_old (ops : List IrOp) (k : Nat) (h : k < ops.length) (hk : ops[k].kind = 2) (hl : 0 ≤ gI (cpTo ops k).last ops[k].k) : cpTo ops (k + 1) = ⟨(cpTo ops k).names ++ [gI (cpTo ops k).last ops[k].k], (cpTo ops k).last⟩ := by
  rw [cpTo_succ ops k h, cpStep, if_pos hk, if_pos hl]
theorem cp_new (ops : List IrOp) (k : Nat) (h : k < ops.length) (hk : ops[k].kind = 2) (hl : ¬ 0 ≤ gI (cpTo ops k).last ops[k].k) : cpTo ops (k + 1) = ⟨(cpTo ops k).names ++ [(k : Int)], (cpTo ops k).last.set ops[k].k.toNat (k : Int)⟩ := by
  rw [cpTo_succ ops k h, cpStep, if_pos hk, if_neg hl, cpTo_names ops k (by omega)]
theorem cp_put (ops : List IrOp) (k : Nat) (h : k < ops.length) (hk : ops[k].kind = 8) : cpTo ops (k + 1) = ⟨(cpTo ops k).names ++ [(k : Int)], (cpTo ops k).last.set ops[k].k.toNat (gI (cpTo ops k).names ops[k].x)⟩ := by
  rw [cpTo_succ ops k h, cpStep, if_neg (by omega), if_pos hk, cpTo_names ops k (by omega)]
theorem cp_no (ops : List IrOp) (k : Nat) (h : k < ops.length) (h2 : ops[k].kind ≠ 2) (h8 : ops[k].kind ≠ 8) : cpTo ops (k + 1) = ⟨(cpTo ops k).names ++ [(k : Int)], (cpTo ops k).last⟩ := by
  rw [cpTo_succ ops k h, cpStep, if_neg h2, if_neg h8, cpTo_names ops k (by omega)]
theorem optCopy_eq {b : IrBlock} (h : irOkB b = true) : optCopy b = renEnd (cpTo b.ops b.ops.length).names b (b.ops.map (ren (cpTo b.ops b.ops.length).names)) := by unfold optCopy; rw [if_pos h]
theorem lastm : ∀ (i : Nat) (a : Int) (u : Value), ([-1, -1, -1, -1] : List Int)[i]? = some a → (#[.int .i64 (-1), .int .i64 (-1), .int .i64 (-1), .int .i64 (-1)] : Array Value)[i]? = some u → ∀ w : World, Rep.rep w (fun _ => False) [u] a := by
  intro i a u ha hu w
  have hi := (List.getElem?_eq_some_iff.1 ha).1
  have h4 : i = 0 ∨ i = 1 ∨ i = 2 ∨ i = 3 := by simp at hi; omega
  rcases h4 with rfl | rfl | rfl | rfl <;> (simp at ha hu; subst ha hu; exact ⟨rfl, fits_small (by omega) (by omega)⟩)

theorem sl_fits {w : World} {S : Nat → Prop} {v : Value} {l : List Int} (h : Sl w S v l) : ∀ n, n ∈ l → Fits n := by
  intro n hn
  obtain ⟨i, hi, rfl⟩ := List.getElem_of_mem hn
  obtain ⟨A, c, rfl, -, -⟩ := h.form
  obtain ⟨_, _, _, _, hf, _⟩ := at_Int h hi
  exact hf
theorem cpOps_get (ops : List IrOp) (k : Nat) (h : k < ops.length) : (cpOps ops k)[k]? = some ops[k] := by
  rw [List.getElem?_eq_getElem (by rw [cpOps_length ops k (by omega)]; exact h), cpOps_at ops k h]

theorem FRow.setF {w : World} {b off : Nat} {l : List IrOp} (h : FRow w b off l) {i j : Nat} {a : IrOp} (ha : l[i]? = some a) (a' : IrOp) (u : Value) (hj : j < 5) (hvs : ([.int .i64 a'.kind, .int .i64 a'.x, .int .i64 a'.y, .int .i64 a'.k, .int .i64 a'.at_] : List Value) = ([.int .i64 a.kind, .int .i64 a.x, .int .i64 a.y, .int .i64 a.k, .int .i64 a.at_] : List Value).set j u) (hok : a'.Ok) :
    FRow (w.setCell ⟨b, off + i * 5 + j, none⟩ u) b off (l.set i a') :=
  h.put (j := j) (S := fun _ => False) (List.getElem?_eq_some_iff.1 ha).1 a' _ _ (h.opcells ha) rfl hj hvs ⟨rfl, hok⟩ (by simp [Rep.sz]; omega)
theorem FRow.setOp {w : World} {b off : Nat} {l : List IrOp} (h : FRow w b off l) {i : Nat} {a : IrOp} (ha : l[i]? = some a) (o : IrOp) (hok : o.Ok) :
    FRow (((((w.setCell ⟨b, off + i * 5, none⟩ (.int .i64 o.kind)).setCell ⟨b, off + i * 5 + 1, none⟩ (.int .i64 o.x)).setCell ⟨b, off + i * 5 + 2, none⟩ (.int .i64 o.y)).setCell ⟨b, off + i * 5 + 3, none⟩ (.int .i64 o.k)).setCell ⟨b, off + i * 5 + 4, none⟩ (.int .i64 o.at_)) b off (l.set i o) := by
  obtain ⟨hk, -⟩ := h.op ha
  have hi := (List.getElem?_eq_some_iff.1 ha).1
  have g : ∀ x : IrOp, (l.set i x)[i]? = some x := fun x => List.getElem?_set_self hi
  have h0 := h.setF (j := 0) ha { a with kind := o.kind } (.int .i64 o.kind) (by decide) rfl ⟨hok.1, hk.2⟩
  have h1 := h0.setF (j := 1) (g _) { a with kind := o.kind, x := o.x } (.int .i64 o.x) (by decide) rfl ⟨hok.1, hok.2.1, hk.2.2⟩
  rw [List.set_set] at h1
  have h2 := h1.setF (j := 2) (g _) { a with kind := o.kind, x := o.x, y := o.y } (.int .i64 o.y) (by decide) rfl ⟨hok.1, hok.2.1, hok.2.2.1, hk.2.2.2⟩
  rw [List.set_set] at h2
  have h3 := h2.setF (j := 3) (g _) { a with kind := o.kind, x := o.x, y := o.y, k := o.k } (.int .i64 o.k) (by decide) rfl ⟨hok.1, hok.2.1, hok.2.2.1, hok.2.2.2.1, hk.2.2.2.2⟩
  rw [List.set_set] at h3
  have h4 := h3.setF (j := 4) (g _) o (.int .i64 o.at_) (by decide) rfl hok
  rw [List.set_set] at h4
  exact h4
theorem FRow.ownB {α : Type} [Flat α] {w w0 : World} {b off : Nat} {l : List α} (h : FRow w b off l) {n c : Nat} (hn : n = l.length) (hc : l.length ≤ c) (hm : c ≤ maxLen) (hb : w0.heap.size ≤ b) : ∃ F, OwnSl w (.slice (some ⟨b, off, none⟩) n c) l F ∧ Fr w0 w F ∧ ∀ q, q ∈ F → q = b := by
  subst hn
  by_cases e : l = []
  · subst e
    exact ⟨[], ⟨_, c, rfl, hc, hm, fun h => by simp at h, fun _ => rfl, fun h => absurd rfl h⟩, Fr.nil _ _, fun q hq => by simp at hq⟩
  · refine ⟨[b], ⟨_, c, rfl, hc, hm, fun h => by simp at h, fun h => absurd h e, fun _ => ⟨b, off, List.replicate l.length [], rfl, by simp, by simp, h.fz, fun i a Fi ha hf => ?_⟩⟩, ⟨by simp, fun x hx => ?_⟩, fun q hq => by simpa using hq⟩
    · obtain ⟨vs, h1, h2⟩ := h.els i a ha
      have hF : Fi = [] := (List.mem_replicate.1 (List.mem_of_getElem? hf)).2
      subst hF
      exact ⟨vs, Flat.owns h1, h2⟩
    · simp at hx; subst hx; exact ⟨hb, h.lt⟩
theorem FApp.set2 {α : Type} [Flat α] {w wr : World} {lo : Nat} {e : TypeId} {v : Value} {l : List α} {Fs : List (List Nat)} {xs : List Value} (h : FApp w lo wr e v l Fs xs) {p : Addr} (hge : w.heap.size ≤ p.block) (hne : v.ownBlock ≠ some p.block) (u : Value) : FApp w lo (wr.setCell p u) e v l Fs xs :=
  ⟨h.app.set u hne (by rw [h.flat]; simp) hge, h.low, h.flat⟩

set_option maxHeartbeats 32000000 in
theorem specOptCopyR_any (b : IrBlock) (vb1 : Value) (w : World) (hb1 : Sl w (Old w) vb1 b.ops) (hkb : b.Ok) :
    Calls Try.prog 77 #[.agg #[.int .i64 b.pc, .int .i64 b.len, vb1, .int .i64 b.fin, .int .i64 b.x, .int .i64 b.y, .int .i64 b.k]] w fun e w' => ∃ r1 F, e = .returned (.agg #[.int .i64 ((optCopy b).pc), .int .i64 ((optCopy b).len), r1, .int .i64 ((optCopy b).fin), .int .i64 ((optCopy b).x), .int .i64 ((optCopy b).y), .int .i64 ((optCopy b).k)]) ∧ OwnSl w' r1 (optCopy b).ops F ∧ Fr w w' F ∧ Ext w w' ∧ Room w.heap.size (Rep.sz IrOp) 58 w' r1 := by
  obtain ⟨i1, hi, hz0, hz1, hz2⟩ := info_parts infzInt
  have HI1 := hide hi
  have HZ01 := hide hz0
  have HZ11 := hide hz1
  have HZ21 := hide hz2
  clear hi hz0 hz1 hz2
  obtain ⟨Ab1, cb1, rfl, hlb1, hmb1⟩ := hb1.form
  go_enter Try.func77, Try.ntmps77
  go_wp2_with fail
  have he0 : Ext w ((w.alloc (Obj.cells #[.int .i64 b.pc, .int .i64 b.len, (.slice Ab1 b.ops.length cb1), .int .i64 b.fin, .int .i64 b.x, .int .i64 b.y, .int .i64 b.k] 25)).alloc (Obj.cells #[.int .i64 0, .int .i64 0, .slice none 0 0, .int .i64 0, .int .i64 0, .int .i64 0, .int .i64 0] 25)) := (Ext.auto)
  have hs0 : w.heap.size + 2 ≤ (((w.alloc (Obj.cells #[.int .i64 b.pc, .int .i64 b.len, (.slice Ab1 b.ops.length cb1), .int .i64 b.fin, .int .i64 b.x, .int .i64 b.y, .int .i64 b.k] 25)).alloc (Obj.cells #[.int .i64 0, .int .i64 0, .slice none 0 0, .int .i64 0, .int .i64 0, .int .i64 0, .int .i64 0] 25))).heap.size := by simp
  have hq0 := hide (show (((w.alloc (Obj.cells #[.int .i64 b.pc, .int .i64 b.len, (.slice Ab1 b.ops.length cb1), .int .i64 b.fin, .int .i64 b.x, .int .i64 b.y, .int .i64 b.k] 25)).alloc (Obj.cells #[.int .i64 0, .int .i64 0, .slice none 0 0, .int .i64 0, .int .i64 0, .int .i64 0, .int .i64 0] 25))).heap.size = w.heap.size + 2 by simp)
  have hBb_0 : Bx ((w.alloc (Obj.cells #[.int .i64 b.pc, .int .i64 b.len, (.slice Ab1 b.ops.length cb1), .int .i64 b.fin, .int .i64 b.x, .int .i64 b.y, .int .i64 b.k] 25)).alloc (Obj.cells #[.int .i64 0, .int .i64 0, .slice none 0 0, .int .i64 0, .int .i64 0, .int .i64 0, .int .i64 0] 25)) (w.heap.size) [.int .i64 b.pc, .int .i64 b.len, (.slice Ab1 b.ops.length cb1), .int .i64 b.fin, .int .i64 b.x, .int .i64 b.y, .int .i64 b.k] := (by have := (Bx.alloc (Bx.new w #[.int .i64 b.pc, .int .i64 b.len, (.slice Ab1 b.ops.length cb1), .int .i64 b.fin, .int .i64 b.x, .int .i64 b.y, .int .i64 b.k] 25) (by simp) #[.int .i64 0, .int .i64 0, .slice none 0 0, .int .i64 0, .int .i64 0, .int .i64 0, .int .i64 0] 25); simpa using this)
  have hFb_0 : ∀ oo, (((w.alloc (Obj.cells #[.int .i64 b.pc, .int .i64 b.len, (.slice Ab1 b.ops.length cb1), .int .i64 b.fin, .int .i64 b.x, .int .i64 b.y, .int .i64 b.k] 25)).alloc (Obj.cells #[.int .i64 0, .int .i64 0, .slice none 0 0, .int .i64 0, .int .i64 0, .int .i64 0, .int .i64 0] 25))).frozen? ⟨w.heap.size, oo, none⟩ = false := fun oo => by simp
  have hBres_0 : Bx ((w.alloc (Obj.cells #[.int .i64 b.pc, .int .i64 b.len, (.slice Ab1 b.ops.length cb1), .int .i64 b.fin, .int .i64 b.x, .int .i64 b.y, .int .i64 b.k] 25)).alloc (Obj.cells #[.int .i64 0, .int .i64 0, .slice none 0 0, .int .i64 0, .int .i64 0, .int .i64 0, .int .i64 0] 25)) (w.heap.size + 1) [.int .i64 0, .int .i64 0, .slice none 0 0, .int .i64 0, .int .i64 0, .int .i64 0, .int .i64 0] := (by have := (Bx.new (w.alloc (Obj.cells #[.int .i64 b.pc, .int .i64 b.len, (.slice Ab1 b.ops.length cb1), .int .i64 b.fin, .int .i64 b.x, .int .i64 b.y, .int .i64 b.k] 25)) #[.int .i64 0, .int .i64 0, .slice none 0 0, .int .i64 0, .int .i64 0, .int .i64 0, .int .i64 0] 25); simpa using this)
  have hFres_0 : ∀ oo, (((w.alloc (Obj.cells #[.int .i64 b.pc, .int .i64 b.len, (.slice Ab1 b.ops.length cb1), .int .i64 b.fin, .int .i64 b.x, .int .i64 b.y, .int .i64 b.k] 25)).alloc (Obj.cells #[.int .i64 0, .int .i64 0, .slice none 0 0, .int .i64 0, .int .i64 0, .int .i64 0, .int .i64 0] 25))).frozen? ⟨w.heap.size + 1, oo, none⟩ = false := fun oo => by simp
  generalize ((w.alloc (Obj.cells #[.int .i64 b.pc, .int .i64 b.len, (.slice Ab1 b.ops.length cb1), .int .i64 b.fin, .int .i64 b.x, .int .i64 b.y, .int .i64 b.k] 25)).alloc (Obj.cells #[.int .i64 0, .int .i64 0, .slice none 0 0, .int .i64 0, .int .i64 0, .int .i64 0, .int .i64 0] 25)) = w0 at *
  refine (specIrOk_any b _ _ (hb1.ext he0) hkb).mono ?_
  rintro e w1 ⟨rfl, hy⟩
  have hx1 : Ext w0 w1 := Ext.trans (Ext.auto) hy
  have hs1 := hx1.size
  have he1 : Ext w w1 := he0.trans hx1
  have hBb_1 : Bx w1 (w.heap.size) [.int .i64 b.pc, .int .i64 b.len, (.slice Ab1 b.ops.length cb1), .int .i64 b.fin, .int .i64 b.x, .int .i64 b.y, .int .i64 b.k] := hx1.bx hBb_0 (by omega)
  have hFb_1 : ∀ oo, w1.frozen? ⟨w.heap.size, oo, none⟩ = false := fun oo => (hx1.frozen (by omega)).trans (hFb_0 oo)
  have hBres_1 : Bx w1 (w.heap.size + 1) [.int .i64 0, .int .i64 0, .slice none 0 0, .int .i64 0, .int .i64 0, .int .i64 0, .int .i64 0] := hx1.bx hBres_0 (by omega)
  have hFres_1 : ∀ oo, w1.frozen? ⟨w.heap.size + 1, oo, none⟩ = false := fun oo => (hx1.frozen (by omega)).trans (hFres_0 oo)
  clear hBb_0 hFb_0 hBres_0 hFres_0
  clear hy
  cases hok : irOkB b
  · 
    have HNO := hide (optCopy_no hok)
    clear hok
    have yres : w.heap.size + 1 < w1.heap.size := by omega
    have xres0 := hBres_1 0 _ rfl
    have xres1 := hBres_1 1 _ rfl
    have xres2 := hBres_1 2 _ rfl
    have xres3 := hBres_1 3 _ rfl
    have xres4 := hBres_1 4 _ rfl
    have xres5 := hBres_1 5 _ rfl
    have xres6 := hBres_1 6 _ rfl
    have fres := hFres_1
    go_wp2
    first
    | refine bodyPost_ret (v := .agg #[.int .i64 0, .int .i64 0, .slice none 0 0, .int .i64 0, .int .i64 0, .int .i64 0, .int .i64 0]) (by simp [results, Try.results77, go_sem, xres0, xres1, xres2, xres3, xres4, xres5, xres6, yres]) rfl ⟨.slice none 0 0, [], by rw [HNO.out]; rfl, by rw [HNO.out]; exact OwnSl.nil _, Fr.nil _ _, (Ext.hold he1), Room.nil _ _ _ _⟩
    | refine bodyPost_ret (v := .agg #[.int .i64 0, .int .i64 0, .slice none 0 0, .int .i64 0, .int .i64 0, .int .i64 0, .int .i64 0]) (by simp [results, Try.results77, go_sem, xres0, xres1, xres2, xres3, xres4, xres5, xres6, yres]) rfl ⟨.slice none 0 0, by rw [HNO.out]; rfl, [], by rw [HNO.out]; exact OwnSl.nil _, Fr.nil _ _, (Ext.hold he1), Room.nil _ _ _ _⟩
  have HOK := hide hok
  clear hok
  have hn48 := ok_n HOK.out
  unfold maxLen at hmb1
  have yb : w.heap.size < w1.heap.size := by omega
  have xb0 := hBb_1 0 _ rfl
  have xb1 := hBb_1 1 _ rfl
  have xb2 := hBb_1 2 _ rfl
  have xb3 := hBb_1 3 _ rfl
  have xb4 := hBb_1 4 _ rfl
  have xb5 := hBb_1 5 _ rfl
  have xb6 := hBb_1 6 _ rfl
  go_wp2_with fail
  clear xb0 xb1 xb2 xb3 xb4 xb5 xb6 yb
  refine (l6CopyR_any b _ _ (hb1.ext he1) (by omega)).mono ?_
  rintro e w2 ⟨r1, F1, rfl, ho1, hf1, hy, hZ⟩
  have hx2 : Ext w1 w2 := Ext.trans (Ext.auto) hy
  have hs2 := hx2.size
  have he2 : Ext w w2 := he1.trans hx2
  have hBb_2 : Bx w2 (w.heap.size) [.int .i64 b.pc, .int .i64 b.len, (.slice Ab1 b.ops.length cb1), .int .i64 b.fin, .int .i64 b.x, .int .i64 b.y, .int .i64 b.k] := hx2.bx hBb_1 (by omega)
  have hFb_2 : ∀ oo, w2.frozen? ⟨w.heap.size, oo, none⟩ = false := fun oo => (hx2.frozen (by omega)).trans (hFb_1 oo)
  have hBres_2 : Bx w2 (w.heap.size + 1) [.int .i64 0, .int .i64 0, .slice none 0 0, .int .i64 0, .int .i64 0, .int .i64 0, .int .i64 0] := hx2.bx hBres_1 (by omega)
  have hFres_2 : ∀ oo, w2.frozen? ⟨w.heap.size + 1, oo, none⟩ = false := fun oo => (hx2.frozen (by omega)).trans (hFres_1 oo)
  clear hBb_1 hFb_1 hBres_1 hFres_1
  clear hy
  obtain ⟨B1, d1, rfl, hd1, hm1⟩ := ho1.sl.form
  replace hZ := hZ.down (lo' := w.heap.size) (by omega)
  have hZl := hZ.lt
  obtain ⟨bo, oo1, hv, hbo1, hbo2, hbo3, hRo_2⟩ : ∃ bo oo1, (b.ops ≠ [] → B1 = some ⟨bo, oo1, none⟩ ∧ w1.heap.size ≤ bo) ∧ w.heap.size ≤ bo ∧ bo ≠ w.heap.size + 1 ∧ bo < w2.heap.size ∧ FRow w2 bo oo1 b.ops := by
    by_cases hK0 : b.ops = []
    · exact ⟨w.heap.size, 0, fun h => absurd hK0 h, Nat.le_refl _, by omega, by omega, ⟨fun o => hFb_2 o, by omega, fun i a ha => by rw [hK0] at ha; simp at ha⟩⟩
    · obtain ⟨bo, oo1, hv, hge, hRo⟩ := FRow.of_own ho1 hf1 (by cases hq : b.ops with | nil => exact absurd hq hK0 | cons a l => simp)
      exact ⟨bo, oo1, fun _ => ⟨hv, hge⟩, by omega, by omega, hRo.lt, hRo⟩
  have HV := hide hv
  clear hv
  go_wp2_with fail
  have hA0 : FApp w1 (w2.heap.size + 1) (((w2.alloc (Obj.cells #[.int .i64 b.pc, .int .i64 b.len, (.slice B1 b.ops.length d1), .int .i64 b.fin, .int .i64 b.x, .int .i64 b.y, .int .i64 b.k] 25)).alloc (.cells #[] 3)).alloc (.cells #[.int .i64 (-1), .int .i64 (-1), .int .i64 (-1), .int .i64 (-1)] 3)) 3 (.slice (some ⟨w2.heap.size + 1, 0, none⟩) 0 0) ([] : List Int) [] [] := ⟨((App.emptyAt (w2.alloc (Obj.cells #[.int .i64 b.pc, .int .i64 b.len, (.slice B1 b.ops.length d1), .int .i64 b.fin, .int .i64 b.x, .int .i64 b.y, .int .i64 b.k] 25)) 3 (w2.heap.size + 1) (by simp)).down (hx2.alloc _)).call ((Ext.refl _).alloc _), fun q hq => by simp [Value.ownBlock] at hq; omega, rfl⟩
  have hla0 : ∀ q, (Value.slice (some ⟨w2.heap.size + 1, 0, none⟩) 0 0).ownBlock = some q → q ≠ w2.heap.size + 2 := fun q hq => by simp [Value.ownBlock] at hq; omega
  replace hZ : Room w.heap.size (Rep.sz IrOp) 58 (((w2.alloc (Obj.cells #[.int .i64 b.pc, .int .i64 b.len, (.slice B1 b.ops.length d1), .int .i64 b.fin, .int .i64 b.x, .int .i64 b.y, .int .i64 b.k] 25)).alloc (.cells #[] 3)).alloc (.cells #[.int .i64 (-1), .int .i64 (-1), .int .i64 (-1), .int .i64 (-1)] 3)) _ := Room.hold hZ
  have he3 : Ext w (((w2.alloc (Obj.cells #[.int .i64 b.pc, .int .i64 b.len, (.slice B1 b.ops.length d1), .int .i64 b.fin, .int .i64 b.x, .int .i64 b.y, .int .i64 b.k] 25)).alloc (.cells #[] 3)).alloc (.cells #[.int .i64 (-1), .int .i64 (-1), .int .i64 (-1), .int .i64 (-1)] 3)) := (Ext.hold he2)
  have hs3 : w2.heap.size + 3 ≤ ((((w2.alloc (Obj.cells #[.int .i64 b.pc, .int .i64 b.len, (.slice B1 b.ops.length d1), .int .i64 b.fin, .int .i64 b.x, .int .i64 b.y, .int .i64 b.k] 25)).alloc (.cells #[] 3)).alloc (.cells #[.int .i64 (-1), .int .i64 (-1), .int .i64 (-1), .int .i64 (-1)] 3))).heap.size := by simp
  have hq3 := hide (show ((((w2.alloc (Obj.cells #[.int .i64 b.pc, .int .i64 b.len, (.slice B1 b.ops.length d1), .int .i64 b.fin, .int .i64 b.x, .int .i64 b.y, .int .i64 b.k] 25)).alloc (.cells #[] 3)).alloc (.cells #[.int .i64 (-1), .int .i64 (-1), .int .i64 (-1), .int .i64 (-1)] 3))).heap.size = w2.heap.size + 3 by simp)
  have hlto_3 : bo < w2.heap.size := hRo_2.lt
  have hBb_3 : Bx ((((w2.alloc (Obj.cells #[.int .i64 b.pc, .int .i64 b.len, (.slice B1 b.ops.length d1), .int .i64 b.fin, .int .i64 b.x, .int .i64 b.y, .int .i64 b.k] 25)).alloc (.cells #[] 3)).alloc (.cells #[.int .i64 (-1), .int .i64 (-1), .int .i64 (-1), .int .i64 (-1)] 3))) (w.heap.size) [.int .i64 b.pc, .int .i64 b.len, (.slice Ab1 b.ops.length cb1), .int .i64 b.fin, .int .i64 b.x, .int .i64 b.y, .int .i64 b.k] := Bx.hold hBb_2
  have hFb_3 : ∀ oo, ((((w2.alloc (Obj.cells #[.int .i64 b.pc, .int .i64 b.len, (.slice B1 b.ops.length d1), .int .i64 b.fin, .int .i64 b.x, .int .i64 b.y, .int .i64 b.k] 25)).alloc (.cells #[] 3)).alloc (.cells #[.int .i64 (-1), .int .i64 (-1), .int .i64 (-1), .int .i64 (-1)] 3))).frozen? ⟨w.heap.size, oo, none⟩ = false := (fz_hold hFb_2)
  have hBres_3 : Bx ((((w2.alloc (Obj.cells #[.int .i64 b.pc, .int .i64 b.len, (.slice B1 b.ops.length d1), .int .i64 b.fin, .int .i64 b.x, .int .i64 b.y, .int .i64 b.k] 25)).alloc (.cells #[] 3)).alloc (.cells #[.int .i64 (-1), .int .i64 (-1), .int .i64 (-1), .int .i64 (-1)] 3))) (w.heap.size + 1) [.int .i64 0, .int .i64 0, .slice none 0 0, .int .i64 0, .int .i64 0, .int .i64 0, .int .i64 0] := Bx.hold hBres_2
  have hFres_3 : ∀ oo, ((((w2.alloc (Obj.cells #[.int .i64 b.pc, .int .i64 b.len, (.slice B1 b.ops.length d1), .int .i64 b.fin, .int .i64 b.x, .int .i64 b.y, .int .i64 b.k] 25)).alloc (.cells #[] 3)).alloc (.cells #[.int .i64 (-1), .int .i64 (-1), .int .i64 (-1), .int .i64 (-1)] 3))).frozen? ⟨w.heap.size + 1, oo, none⟩ = false := (fz_hold hFres_2)
  have hRo_3 : FRow ((((w2.alloc (Obj.cells #[.int .i64 b.pc, .int .i64 b.len, (.slice B1 b.ops.length d1), .int .i64 b.fin, .int .i64 b.x, .int .i64 b.y, .int .i64 b.k] 25)).alloc (.cells #[] 3)).alloc (.cells #[.int .i64 (-1), .int .i64 (-1), .int .i64 (-1), .int .i64 (-1)] 3))) (bo) oo1 (b.ops) := FRow.hold hRo_2
  have hRla_3 : FRow ((((w2.alloc (Obj.cells #[.int .i64 b.pc, .int .i64 b.len, (.slice B1 b.ops.length d1), .int .i64 b.fin, .int .i64 b.x, .int .i64 b.y, .int .i64 b.k] 25)).alloc (.cells #[] 3)).alloc (.cells #[.int .i64 (-1), .int .i64 (-1), .int .i64 (-1), .int .i64 (-1)] 3))) (w2.heap.size + 2) 0 ([-1, -1, -1, -1]) := (FRow.built ((w2.alloc (Obj.cells #[.int .i64 b.pc, .int .i64 b.len, (.slice B1 b.ops.length d1), .int .i64 b.fin, .int .i64 b.x, .int .i64 b.y, .int .i64 b.k] 25)).alloc (.cells #[] 3)) 3 #[.int .i64 (-1), .int .i64 (-1), .int .i64 (-1), .int .i64 (-1)] ([-1, -1, -1, -1] : List Int) rfl rfl (fun i a u ha hu => lastm i a u ha hu _) (by simp))
  have hBx_3 : Bx ((((w2.alloc (Obj.cells #[.int .i64 b.pc, .int .i64 b.len, (.slice B1 b.ops.length d1), .int .i64 b.fin, .int .i64 b.x, .int .i64 b.y, .int .i64 b.k] 25)).alloc (.cells #[] 3)).alloc (.cells #[.int .i64 (-1), .int .i64 (-1), .int .i64 (-1), .int .i64 (-1)] 3))) (w2.heap.size) [.int .i64 b.pc, .int .i64 b.len, (.slice B1 b.ops.length d1), .int .i64 b.fin, .int .i64 b.x, .int .i64 b.y, .int .i64 b.k] := (by have := Bx.alloc (Bx.alloc (Bx.new w2 #[.int .i64 b.pc, .int .i64 b.len, (.slice B1 b.ops.length d1), .int .i64 b.fin, .int .i64 b.x, .int .i64 b.y, .int .i64 b.k] 25) (by simp) #[] 3) (by simp; omega) #[.int .i64 (-1), .int .i64 (-1), .int .i64 (-1), .int .i64 (-1)] 3; simpa using this)
  have hFx_3 : ∀ oo, ((((w2.alloc (Obj.cells #[.int .i64 b.pc, .int .i64 b.len, (.slice B1 b.ops.length d1), .int .i64 b.fin, .int .i64 b.x, .int .i64 b.y, .int .i64 b.k] 25)).alloc (.cells #[] 3)).alloc (.cells #[.int .i64 (-1), .int .i64 (-1), .int .i64 (-1), .int .i64 (-1)] 3))).frozen? ⟨w2.heap.size, oo, none⟩ = false := (fz_alloc (fz_alloc (fz_new w2 #[.int .i64 b.pc, .int .i64 b.len, (.slice B1 b.ops.length d1), .int .i64 b.fin, .int .i64 b.x, .int .i64 b.y, .int .i64 b.k] 25 rfl) (by simp) (.cells #[] 3)) (by simp; omega) (.cells #[.int .i64 (-1), .int .i64 (-1), .int .i64 (-1), .int .i64 (-1)] 3))
  generalize (((w2.alloc (Obj.cells #[.int .i64 b.pc, .int .i64 b.len, (.slice B1 b.ops.length d1), .int .i64 b.fin, .int .i64 b.x, .int .i64 b.y, .int .i64 b.k] 25)).alloc (.cells #[] 3)).alloc (.cells #[.int .i64 (-1), .int .i64 (-1), .int .i64 (-1), .int .i64 (-1)] 3)) = w3 at *
  clear hBb_2 hFb_2 hBres_2 hFres_2 hRo_2
  go_loopw [4, 6] (fun v i w4 => ∃ (k : Nat) (A4 : Option Addr) (c4 : Nat) (Fs : List (List Nat)) (xs : List Value), k ≤ b.ops.length ∧ i = .int .i64 (k : Int) ∧ v = .slice A4 k c4 ∧ FApp w1 (w2.heap.size + 1) w4 3 (.slice A4 k c4) (cpTo b.ops k).names Fs xs ∧ (∀ q, (Value.slice A4 k c4).ownBlock = some q → q ≠ w2.heap.size + 2) ∧ Room w.heap.size (Rep.sz IrOp) 58 w4 (.slice B1 b.ops.length d1) ∧ Ext w w4 ∧ w3.heap.size ≤ w4.heap.size ∧ Bx w4 (w.heap.size) [.int .i64 b.pc, .int .i64 b.len, (.slice Ab1 b.ops.length cb1), .int .i64 b.fin, .int .i64 b.x, .int .i64 b.y, .int .i64 b.k] ∧ (∀ oo, w4.frozen? ⟨w.heap.size, oo, none⟩ = false) ∧ Bx w4 (w.heap.size + 1) [.int .i64 0, .int .i64 0, .slice none 0 0, .int .i64 0, .int .i64 0, .int .i64 0, .int .i64 0] ∧ (∀ oo, w4.frozen? ⟨w.heap.size + 1, oo, none⟩ = false) ∧ Bx w4 (w2.heap.size) [.int .i64 b.pc, .int .i64 b.len, (.slice B1 b.ops.length d1), .int .i64 b.fin, .int .i64 b.x, .int .i64 b.y, .int .i64 b.k] ∧ (∀ oo, w4.frozen? ⟨w2.heap.size, oo, none⟩ = false) ∧ FRow w4 (bo) oo1 (cpOps b.ops k) ∧ FRow w4 (w2.heap.size + 2) 0 ((cpTo b.ops k).last)) (fun _ i _ => b.ops.length - (intOf i).toNat)
  case atStart => exact ⟨0, some ⟨w2.heap.size + 1, 0, none⟩, 0, [], [], by omega, rfl, rfl, hA0, hla0, hZ, he3, Nat.le_refl _, hBb_3, hFb_3, hBres_3, hFres_3, hBx_3, hFx_3, by rw [cpOps_zero]; exact hRo_3, hRla_3⟩
  case round =>
    clear hA0 hla0 hZ
    obtain ⟨w4, hwr⟩ : ∃ w4 : World, w4 = wr := ⟨_, rfl⟩
    subst hwr
    obtain ⟨k, A4, c4, Fs, xs, hk, rfl, rfl, hA, hla, hZ, he4, hs4, hBb_4, hFb_4, hBres_4, hFres_4, hBx_4, hFx_4, hRo_4, hRla_4⟩ := hrel
    by_cases hlt : k < b.ops.length
    · 
      obtain ⟨hB1, hbo4⟩ := HV.out (by intro h; rw [h] at hlt; simp at hlt)
      subst hB1
      have z0 : (0 : Int) ≤ (k : Int) := by omega
      have z1 : (k : Int) < (b.ops.length : Int) := by omega
      have HLA := hide (cpTo_last b.ops k hk)
      have HNL := hide (cpTo_names b.ops k hk)
      have HG := hide (cpOps_get b.ops k hlt)
      obtain ⟨hk0, e0, e1, e2, e3, e4⟩ := hRo_4.op HG.out
      have ybo : bo < w4.heap.size := hRo_4.lt
      have KD := op_kind (ok_ops HOK.out k hlt)
      have HKR := hide (fun q => op_r (ok_ops HOK.out k hlt) q)
      have HB := ok_below HOK.out k hlt
      have HOS := hide (cpOps_succ HOK.out k hlt)
      obtain ⟨F6, ho6, hf6⟩ := hA.app.done
      have hS6 := ho6.old hf6
      have HFN := hide (sl_fits hS6)
      clear ho6 hf6
      have yx : w2.heap.size < w4.heap.size := by omega
      have xx0 := hBx_4 0 _ rfl
      have xx1 := hBx_4 1 _ rfl
      have xx2 := hBx_4 2 _ rfl
      have xx3 := hBx_4 3 _ rfl
      have xx4 := hBx_4 4 _ rfl
      have xx5 := hBx_4 5 _ rfl
      have xx6 := hBx_4 6 _ rfl
      go_wp2_with fail
      clear xx0 xx1 xx2 xx3 xx4 xx5 xx6 yx
      refine (l10Alias_any b.ops[k] (cpTo b.ops k).names _ _ hS6 KD.1 KD.2 (fun q => by have := HB.1 q; rw [HNL.out]; omega) (fun q => by have := HB.2 q; rw [HNL.out]; omega)).mono ?_
      rintro e w5 ⟨rfl, hy⟩
      have hx5 : Ext w4 w5 := Ext.trans (Ext.auto) hy
      have hs5 := hx5.size
      have he5 : Ext w w5 := he4.trans hx5
      have hBb_5 : Bx w5 (w.heap.size) [.int .i64 b.pc, .int .i64 b.len, (.slice Ab1 b.ops.length cb1), .int .i64 b.fin, .int .i64 b.x, .int .i64 b.y, .int .i64 b.k] := hx5.bx hBb_4 (by omega)
      have hFb_5 : ∀ oo, w5.frozen? ⟨w.heap.size, oo, none⟩ = false := fun oo => (hx5.frozen (by omega)).trans (hFb_4 oo)
      have hBres_5 : Bx w5 (w.heap.size + 1) [.int .i64 0, .int .i64 0, .slice none 0 0, .int .i64 0, .int .i64 0, .int .i64 0, .int .i64 0] := hx5.bx hBres_4 (by omega)
      have hFres_5 : ∀ oo, w5.frozen? ⟨w.heap.size + 1, oo, none⟩ = false := fun oo => (hx5.frozen (by omega)).trans (hFres_4 oo)
      have hBx_5 : Bx w5 (w2.heap.size) [.int .i64 b.pc, .int .i64 b.len, (.slice (some ⟨bo, oo1, none⟩) b.ops.length d1), .int .i64 b.fin, .int .i64 b.x, .int .i64 b.y, .int .i64 b.k] := hx5.bx hBx_4 (by omega)
      have hFx_5 : ∀ oo, w5.frozen? ⟨w2.heap.size, oo, none⟩ = false := fun oo => (hx5.frozen (by omega)).trans (hFx_4 oo)
      clear hBb_4 hFb_4 hBres_4 hFres_4 hBx_4 hFx_4
      have hRo_5 : FRow w5 (bo) oo1 (cpOps b.ops k) := hRo_4.ext hx5
      have hRla_5 : FRow w5 (w2.heap.size + 2) 0 ((cpTo b.ops k).last) := hRla_4.ext hx5
      clear hRo_4 hRla_4
      have hA2 := hA.call hy
      replace hZ := hZ.ext hy
      clear hy hA hS6 e0 e1 e2 e3 e4 ybo
      have hRok := ren_ok (cpTo b.ops k).names b.ops[k] hk0 HFN.out
      have hkd : (ren (cpTo b.ops k).names b.ops[k]).kind = b.ops[k].kind := rfl
      have hkk : (ren (cpTo b.ops k).names b.ops[k]).k = b.ops[k].k := rfl
      have hkx : b.ops[k].kind = 8 → (ren (cpTo b.ops k).names b.ops[k]).x = gI (cpTo b.ops k).names b.ops[k].x := fun q => by unfold ren; simp [q, hasX]
      generalize ren (cpTo b.ops k).names b.ops[k] = o at *
      have HKD := hide hkd
      have HKK := hide hkk
      have HKX := hide hkx
      obtain ⟨hk9, e0, e1, e2, e3, e4⟩ := hRo_5.op HG.out
      have zo := hRo_5.fz
      have ybo : bo < w5.heap.size := hRo_5.lt
      clear hkd hkk hkx hk9
      have yx : w2.heap.size < w5.heap.size := by omega
      have xx0 := hBx_5 0 _ rfl
      have xx1 := hBx_5 1 _ rfl
      have xx2 := hBx_5 2 _ rfl
      have xx3 := hBx_5 3 _ rfl
      have xx4 := hBx_5 4 _ rfl
      have xx5 := hBx_5 5 _ rfl
      have xx6 := hBx_5 6 _ rfl
      go_upto_region 12 with fail
      clear xx0 xx1 xx2 xx3 xx4 xx5 xx6 yx
      have hA3 := FApp.call (FApp.set (FApp.set (FApp.set (FApp.set (FApp.set hA2 (p := ⟨bo, oo1 + k * 5, none⟩) (by show w1.heap.size ≤ bo; omega) (by show bo < _; omega) (.int .i64 o.kind)) (p := ⟨bo, oo1 + k * 5 + 1, none⟩) (by show w1.heap.size ≤ bo; omega) (by show bo < _; omega) (.int .i64 o.x)) (p := ⟨bo, oo1 + k * 5 + 2, none⟩) (by show w1.heap.size ≤ bo; omega) (by show bo < _; omega) (.int .i64 o.y)) (p := ⟨bo, oo1 + k * 5 + 3, none⟩) (by show w1.heap.size ≤ bo; omega) (by show bo < _; omega) (.int .i64 o.k)) (p := ⟨bo, oo1 + k * 5 + 4, none⟩) (by show w1.heap.size ≤ bo; omega) (by show bo < _; omega) (.int .i64 o.at_)) ((Ext.refl _).alloc (Obj.cells #[.int .i64 o.kind, .int .i64 o.x, .int .i64 o.y, .int .i64 o.k, .int .i64 o.at_] 58))
      clear hA2
      replace hZ : Room w.heap.size (Rep.sz IrOp) 58 ((((((w5.setCell ⟨bo, oo1 + k * 5, none⟩ (.int .i64 o.kind)).setCell ⟨bo, oo1 + k * 5 + 1, none⟩ (.int .i64 o.x)).setCell ⟨bo, oo1 + k * 5 + 2, none⟩ (.int .i64 o.y)).setCell ⟨bo, oo1 + k * 5 + 3, none⟩ (.int .i64 o.k)).setCell ⟨bo, oo1 + k * 5 + 4, none⟩ (.int .i64 o.at_)).alloc (Obj.cells #[.int .i64 o.kind, .int .i64 o.x, .int .i64 o.y, .int .i64 o.k, .int .i64 o.at_] 58)) _ := Room.hold hZ
      have he6 : Ext w ((((((w5.setCell ⟨bo, oo1 + k * 5, none⟩ (.int .i64 o.kind)).setCell ⟨bo, oo1 + k * 5 + 1, none⟩ (.int .i64 o.x)).setCell ⟨bo, oo1 + k * 5 + 2, none⟩ (.int .i64 o.y)).setCell ⟨bo, oo1 + k * 5 + 3, none⟩ (.int .i64 o.k)).setCell ⟨bo, oo1 + k * 5 + 4, none⟩ (.int .i64 o.at_)).alloc (Obj.cells #[.int .i64 o.kind, .int .i64 o.x, .int .i64 o.y, .int .i64 o.k, .int .i64 o.at_] 58)) := (Ext.hold he5)
      have hs6 : w5.heap.size + 1 ≤ (((((((w5.setCell ⟨bo, oo1 + k * 5, none⟩ (.int .i64 o.kind)).setCell ⟨bo, oo1 + k * 5 + 1, none⟩ (.int .i64 o.x)).setCell ⟨bo, oo1 + k * 5 + 2, none⟩ (.int .i64 o.y)).setCell ⟨bo, oo1 + k * 5 + 3, none⟩ (.int .i64 o.k)).setCell ⟨bo, oo1 + k * 5 + 4, none⟩ (.int .i64 o.at_)).alloc (Obj.cells #[.int .i64 o.kind, .int .i64 o.x, .int .i64 o.y, .int .i64 o.k, .int .i64 o.at_] 58))).heap.size := by simp
      have hq6 := hide (show (((((((w5.setCell ⟨bo, oo1 + k * 5, none⟩ (.int .i64 o.kind)).setCell ⟨bo, oo1 + k * 5 + 1, none⟩ (.int .i64 o.x)).setCell ⟨bo, oo1 + k * 5 + 2, none⟩ (.int .i64 o.y)).setCell ⟨bo, oo1 + k * 5 + 3, none⟩ (.int .i64 o.k)).setCell ⟨bo, oo1 + k * 5 + 4, none⟩ (.int .i64 o.at_)).alloc (Obj.cells #[.int .i64 o.kind, .int .i64 o.x, .int .i64 o.y, .int .i64 o.k, .int .i64 o.at_] 58))).heap.size = w5.heap.size + 1 by simp)
      have hlto_6 : bo < w5.heap.size := hRo_5.lt
      have hltla_6 : w2.heap.size + 2 < w5.heap.size := hRla_5.lt
      have hBb_6 : Bx (((((((w5.setCell ⟨bo, oo1 + k * 5, none⟩ (.int .i64 o.kind)).setCell ⟨bo, oo1 + k * 5 + 1, none⟩ (.int .i64 o.x)).setCell ⟨bo, oo1 + k * 5 + 2, none⟩ (.int .i64 o.y)).setCell ⟨bo, oo1 + k * 5 + 3, none⟩ (.int .i64 o.k)).setCell ⟨bo, oo1 + k * 5 + 4, none⟩ (.int .i64 o.at_)).alloc (Obj.cells #[.int .i64 o.kind, .int .i64 o.x, .int .i64 o.y, .int .i64 o.k, .int .i64 o.at_] 58))) (w.heap.size) [.int .i64 b.pc, .int .i64 b.len, (.slice Ab1 b.ops.length cb1), .int .i64 b.fin, .int .i64 b.x, .int .i64 b.y, .int .i64 b.k] := Bx.hold hBb_5
      have hFb_6 : ∀ oo, (((((((w5.setCell ⟨bo, oo1 + k * 5, none⟩ (.int .i64 o.kind)).setCell ⟨bo, oo1 + k * 5 + 1, none⟩ (.int .i64 o.x)).setCell ⟨bo, oo1 + k * 5 + 2, none⟩ (.int .i64 o.y)).setCell ⟨bo, oo1 + k * 5 + 3, none⟩ (.int .i64 o.k)).setCell ⟨bo, oo1 + k * 5 + 4, none⟩ (.int .i64 o.at_)).alloc (Obj.cells #[.int .i64 o.kind, .int .i64 o.x, .int .i64 o.y, .int .i64 o.k, .int .i64 o.at_] 58))).frozen? ⟨w.heap.size, oo, none⟩ = false := (fz_hold hFb_5)
      have hBres_6 : Bx (((((((w5.setCell ⟨bo, oo1 + k * 5, none⟩ (.int .i64 o.kind)).setCell ⟨bo, oo1 + k * 5 + 1, none⟩ (.int .i64 o.x)).setCell ⟨bo, oo1 + k * 5 + 2, none⟩ (.int .i64 o.y)).setCell ⟨bo, oo1 + k * 5 + 3, none⟩ (.int .i64 o.k)).setCell ⟨bo, oo1 + k * 5 + 4, none⟩ (.int .i64 o.at_)).alloc (Obj.cells #[.int .i64 o.kind, .int .i64 o.x, .int .i64 o.y, .int .i64 o.k, .int .i64 o.at_] 58))) (w.heap.size + 1) [.int .i64 0, .int .i64 0, .slice none 0 0, .int .i64 0, .int .i64 0, .int .i64 0, .int .i64 0] := Bx.hold hBres_5
      have hFres_6 : ∀ oo, (((((((w5.setCell ⟨bo, oo1 + k * 5, none⟩ (.int .i64 o.kind)).setCell ⟨bo, oo1 + k * 5 + 1, none⟩ (.int .i64 o.x)).setCell ⟨bo, oo1 + k * 5 + 2, none⟩ (.int .i64 o.y)).setCell ⟨bo, oo1 + k * 5 + 3, none⟩ (.int .i64 o.k)).setCell ⟨bo, oo1 + k * 5 + 4, none⟩ (.int .i64 o.at_)).alloc (Obj.cells #[.int .i64 o.kind, .int .i64 o.x, .int .i64 o.y, .int .i64 o.k, .int .i64 o.at_] 58))).frozen? ⟨w.heap.size + 1, oo, none⟩ = false := (fz_hold hFres_5)
      have hBx_6 : Bx (((((((w5.setCell ⟨bo, oo1 + k * 5, none⟩ (.int .i64 o.kind)).setCell ⟨bo, oo1 + k * 5 + 1, none⟩ (.int .i64 o.x)).setCell ⟨bo, oo1 + k * 5 + 2, none⟩ (.int .i64 o.y)).setCell ⟨bo, oo1 + k * 5 + 3, none⟩ (.int .i64 o.k)).setCell ⟨bo, oo1 + k * 5 + 4, none⟩ (.int .i64 o.at_)).alloc (Obj.cells #[.int .i64 o.kind, .int .i64 o.x, .int .i64 o.y, .int .i64 o.k, .int .i64 o.at_] 58))) (w2.heap.size) [.int .i64 b.pc, .int .i64 b.len, (.slice (some ⟨bo, oo1, none⟩) b.ops.length d1), .int .i64 b.fin, .int .i64 b.x, .int .i64 b.y, .int .i64 b.k] := Bx.hold hBx_5
      have hFx_6 : ∀ oo, (((((((w5.setCell ⟨bo, oo1 + k * 5, none⟩ (.int .i64 o.kind)).setCell ⟨bo, oo1 + k * 5 + 1, none⟩ (.int .i64 o.x)).setCell ⟨bo, oo1 + k * 5 + 2, none⟩ (.int .i64 o.y)).setCell ⟨bo, oo1 + k * 5 + 3, none⟩ (.int .i64 o.k)).setCell ⟨bo, oo1 + k * 5 + 4, none⟩ (.int .i64 o.at_)).alloc (Obj.cells #[.int .i64 o.kind, .int .i64 o.x, .int .i64 o.y, .int .i64 o.k, .int .i64 o.at_] 58))).frozen? ⟨w2.heap.size, oo, none⟩ = false := (fz_hold hFx_5)
      have hRla_6 : FRow (((((((w5.setCell ⟨bo, oo1 + k * 5, none⟩ (.int .i64 o.kind)).setCell ⟨bo, oo1 + k * 5 + 1, none⟩ (.int .i64 o.x)).setCell ⟨bo, oo1 + k * 5 + 2, none⟩ (.int .i64 o.y)).setCell ⟨bo, oo1 + k * 5 + 3, none⟩ (.int .i64 o.k)).setCell ⟨bo, oo1 + k * 5 + 4, none⟩ (.int .i64 o.at_)).alloc (Obj.cells #[.int .i64 o.kind, .int .i64 o.x, .int .i64 o.y, .int .i64 o.k, .int .i64 o.at_] 58))) (w2.heap.size + 2) 0 ((cpTo b.ops k).last) := FRow.hold hRla_5
      have hRo_6 : FRow (((((((w5.setCell ⟨bo, oo1 + k * 5, none⟩ (.int .i64 o.kind)).setCell ⟨bo, oo1 + k * 5 + 1, none⟩ (.int .i64 o.x)).setCell ⟨bo, oo1 + k * 5 + 2, none⟩ (.int .i64 o.y)).setCell ⟨bo, oo1 + k * 5 + 3, none⟩ (.int .i64 o.k)).setCell ⟨bo, oo1 + k * 5 + 4, none⟩ (.int .i64 o.at_)).alloc (Obj.cells #[.int .i64 o.kind, .int .i64 o.x, .int .i64 o.y, .int .i64 o.k, .int .i64 o.at_] 58))) (bo) oo1 (cpOps b.ops (k + 1)) := (by have := (hRo_5.setOp HG.out o hRok).alloc (Obj.cells #[.int .i64 o.kind, .int .i64 o.x, .int .i64 o.y, .int .i64 o.k, .int .i64 o.at_] 58); rwa [← HOS.out] at this)
      have hBo_6 : Bx (((((((w5.setCell ⟨bo, oo1 + k * 5, none⟩ (.int .i64 o.kind)).setCell ⟨bo, oo1 + k * 5 + 1, none⟩ (.int .i64 o.x)).setCell ⟨bo, oo1 + k * 5 + 2, none⟩ (.int .i64 o.y)).setCell ⟨bo, oo1 + k * 5 + 3, none⟩ (.int .i64 o.k)).setCell ⟨bo, oo1 + k * 5 + 4, none⟩ (.int .i64 o.at_)).alloc (Obj.cells #[.int .i64 o.kind, .int .i64 o.x, .int .i64 o.y, .int .i64 o.k, .int .i64 o.at_] 58))) (w5.heap.size) [.int .i64 o.kind, .int .i64 o.x, .int .i64 o.y, .int .i64 o.k, .int .i64 o.at_] := (by have := Bx.new (((((w5.setCell ⟨bo, oo1 + k * 5, none⟩ (.int .i64 o.kind)).setCell ⟨bo, oo1 + k * 5 + 1, none⟩ (.int .i64 o.x)).setCell ⟨bo, oo1 + k * 5 + 2, none⟩ (.int .i64 o.y)).setCell ⟨bo, oo1 + k * 5 + 3, none⟩ (.int .i64 o.k)).setCell ⟨bo, oo1 + k * 5 + 4, none⟩ (.int .i64 o.at_)) #[.int .i64 o.kind, .int .i64 o.x, .int .i64 o.y, .int .i64 o.k, .int .i64 o.at_] 58; simpa using this)
      have hFo_6 : ∀ oo, (((((((w5.setCell ⟨bo, oo1 + k * 5, none⟩ (.int .i64 o.kind)).setCell ⟨bo, oo1 + k * 5 + 1, none⟩ (.int .i64 o.x)).setCell ⟨bo, oo1 + k * 5 + 2, none⟩ (.int .i64 o.y)).setCell ⟨bo, oo1 + k * 5 + 3, none⟩ (.int .i64 o.k)).setCell ⟨bo, oo1 + k * 5 + 4, none⟩ (.int .i64 o.at_)).alloc (Obj.cells #[.int .i64 o.kind, .int .i64 o.x, .int .i64 o.y, .int .i64 o.k, .int .i64 o.at_] 58))).frozen? ⟨w5.heap.size, oo, none⟩ = false := by first | (exact fz_new _ _ _ (by first | rfl | simp)) | (intro oo; simp)
      generalize ((((((w5.setCell ⟨bo, oo1 + k * 5, none⟩ (.int .i64 o.kind)).setCell ⟨bo, oo1 + k * 5 + 1, none⟩ (.int .i64 o.x)).setCell ⟨bo, oo1 + k * 5 + 2, none⟩ (.int .i64 o.y)).setCell ⟨bo, oo1 + k * 5 + 3, none⟩ (.int .i64 o.k)).setCell ⟨bo, oo1 + k * 5 + 4, none⟩ (.int .i64 o.at_)).alloc (Obj.cells #[.int .i64 o.kind, .int .i64 o.x, .int .i64 o.y, .int .i64 o.k, .int .i64 o.at_] 58)) = w6 at *
      clear hBb_5 hFb_5 hBres_5 hFres_5 hBx_5 hFx_5 hRo_5 hRla_5
      clear e0 e1 e2 e3 e4 zo ybo
      have HNS := hide (cpTo_names b.ops (k + 1) (by omega))
      have hRx := hRok.2.1
      by_cases k2 : b.ops[k].kind = 2
      · 
        have hr := HKR.out (by simp [k2])
        rw [← HKK.out] at hr
        have hr0 := hr.1
        have hr1 := hr.2
        have hinA : (o.k).toNat < (cpTo b.ops k).last.length := by rw [HLA.out]; omega
        clear hr
        have q2 : (o.kind == 2) = true := by rw [HKD.out]; simp [k2]
        have q8 : (o.kind == 8) = false := by rw [HKD.out]; simp [k2]
        have HGI := hide (gI_in (cpTo b.ops k).last o.k hinA)
        have ga := hRla_6.int0 (i := (o.k).toNat) (hinA)
        have zga := hRla_6.fz
        have yga : w2.heap.size + 2 < w6.heap.size := hRla_6.lt
        have hFL := hRla_6.intfit hinA
        by_cases hge : (0 : Int) ≤ (cpTo b.ops k).last[(o.k).toNat]
        · 
          have HC := hide (cp_old b.ops k hlt k2 (by rw [← HKK.out, ← HGI.out]; exact hge))
          clear k2
          have hge2 : decide ((0 : Int) ≤ (cpTo b.ops k).last[(o.k).toNat]) = true := decide_eq_true hge
          have HC2 := hide (show (cpTo b.ops (k + 1)).names = (cpTo b.ops k).names ++ [(cpTo b.ops k).last[(o.k).toNat]] by rw [HC.out, HGI.out, HKK.out])
          have yo : w5.heap.size < w6.heap.size := by omega
          have xo0 := hBo_6 0 _ rfl
          have xo1 := hBo_6 1 _ rfl
          have xo2 := hBo_6 2 _ rfl
          have xo3 := hBo_6 3 _ rfl
          have xo4 := hBo_6 4 _ rfl
          go_upto_region 18 with fail
          clear xo0 xo1 xo2 xo3 xo4 yo
          have hA4 := FApp.set2 (hA3) (p := ⟨w2.heap.size + 2, (o.k).toNat, none⟩) (by show w1.heap.size ≤ w2.heap.size + 2; omega) (fun e => hla _ e rfl) (.int .i64 ((cpTo b.ops k).last[(o.k).toNat]))
          clear ga zga yga
          replace hZ : Room w.heap.size (Rep.sz IrOp) 58 (w6.setCell ⟨w2.heap.size + 2, (o.k).toNat, none⟩ (.int .i64 ((cpTo b.ops k).last[(o.k).toNat]))) _ := Room.hold hZ
          have he7 : Ext w (w6.setCell ⟨w2.heap.size + 2, (o.k).toNat, none⟩ (.int .i64 ((cpTo b.ops k).last[(o.k).toNat]))) := (Ext.hold he6)
          have hs7 : w6.heap.size + 0 ≤ ((w6.setCell ⟨w2.heap.size + 2, (o.k).toNat, none⟩ (.int .i64 ((cpTo b.ops k).last[(o.k).toNat])))).heap.size := by simp
          have hq7 := hide (show ((w6.setCell ⟨w2.heap.size + 2, (o.k).toNat, none⟩ (.int .i64 ((cpTo b.ops k).last[(o.k).toNat])))).heap.size = w6.heap.size + 0 by simp)
          have hlto_7 : bo < w6.heap.size := hRo_6.lt
          have hltla_7 : w2.heap.size + 2 < w6.heap.size := hRla_6.lt
          have hBb_7 : Bx ((w6.setCell ⟨w2.heap.size + 2, (o.k).toNat, none⟩ (.int .i64 ((cpTo b.ops k).last[(o.k).toNat])))) (w.heap.size) [.int .i64 b.pc, .int .i64 b.len, (.slice Ab1 b.ops.length cb1), .int .i64 b.fin, .int .i64 b.x, .int .i64 b.y, .int .i64 b.k] := Bx.hold hBb_6
          have hFb_7 : ∀ oo, ((w6.setCell ⟨w2.heap.size + 2, (o.k).toNat, none⟩ (.int .i64 ((cpTo b.ops k).last[(o.k).toNat])))).frozen? ⟨w.heap.size, oo, none⟩ = false := (fz_hold hFb_6)
          have hBres_7 : Bx ((w6.setCell ⟨w2.heap.size + 2, (o.k).toNat, none⟩ (.int .i64 ((cpTo b.ops k).last[(o.k).toNat])))) (w.heap.size + 1) [.int .i64 0, .int .i64 0, .slice none 0 0, .int .i64 0, .int .i64 0, .int .i64 0, .int .i64 0] := Bx.hold hBres_6
          have hFres_7 : ∀ oo, ((w6.setCell ⟨w2.heap.size + 2, (o.k).toNat, none⟩ (.int .i64 ((cpTo b.ops k).last[(o.k).toNat])))).frozen? ⟨w.heap.size + 1, oo, none⟩ = false := (fz_hold hFres_6)
          have hBx_7 : Bx ((w6.setCell ⟨w2.heap.size + 2, (o.k).toNat, none⟩ (.int .i64 ((cpTo b.ops k).last[(o.k).toNat])))) (w2.heap.size) [.int .i64 b.pc, .int .i64 b.len, (.slice (some ⟨bo, oo1, none⟩) b.ops.length d1), .int .i64 b.fin, .int .i64 b.x, .int .i64 b.y, .int .i64 b.k] := Bx.hold hBx_6
          have hFx_7 : ∀ oo, ((w6.setCell ⟨w2.heap.size + 2, (o.k).toNat, none⟩ (.int .i64 ((cpTo b.ops k).last[(o.k).toNat])))).frozen? ⟨w2.heap.size, oo, none⟩ = false := (fz_hold hFx_6)
          have hBo_7 : Bx ((w6.setCell ⟨w2.heap.size + 2, (o.k).toNat, none⟩ (.int .i64 ((cpTo b.ops k).last[(o.k).toNat])))) (w5.heap.size) [.int .i64 o.kind, .int .i64 o.x, .int .i64 o.y, .int .i64 o.k, .int .i64 o.at_] := Bx.hold hBo_6
          have hFo_7 : ∀ oo, ((w6.setCell ⟨w2.heap.size + 2, (o.k).toNat, none⟩ (.int .i64 ((cpTo b.ops k).last[(o.k).toNat])))).frozen? ⟨w5.heap.size, oo, none⟩ = false := (fz_hold hFo_6)
          have hRo_7 : FRow ((w6.setCell ⟨w2.heap.size + 2, (o.k).toNat, none⟩ (.int .i64 ((cpTo b.ops k).last[(o.k).toNat])))) (bo) oo1 (cpOps b.ops (k + 1)) := FRow.hold hRo_6
          have hRla_7 : FRow ((w6.setCell ⟨w2.heap.size + 2, (o.k).toNat, none⟩ (.int .i64 ((cpTo b.ops k).last[(o.k).toNat])))) (w2.heap.size + 2) 0 ((cpTo b.ops (k + 1)).last) := (by have q := hRla_6.setInt0 hinA _ hFL; rw [set_self (cpTo b.ops k).last (o.k).toNat _ (List.getElem?_eq_getElem hinA)] at q; rw [HC.out]; exact q)
          generalize (w6.setCell ⟨w2.heap.size + 2, (o.k).toNat, none⟩ (.int .i64 ((cpTo b.ops k).last[(o.k).toNat]))) = w7 at *
          clear hBb_6 hFb_6 hBres_6 hFres_6 hBx_6 hFx_6 hBo_6 hFo_6 hRo_6 hRla_6
          clear hA3
          go_wp2_with (at_builtin; refine wpList_append_push2 (w0 := w1) (wr := w7) rfl _ _ 41 rfl i1 _ 8 Try.underlying41 HI1.out HZ01.out HZ11.out HZ21.out rfl (by decide) hA4.app rfl ((cpTo b.ops k).last[(o.k).toNat]) #[.int .i64 ((cpTo b.ops k).last[(o.k).toNat])] 3 [] _ rfl (Ext.refl _) ⟨⟨rfl, hFL⟩, rfl⟩ (Fr.nil _ _) (by repeat (first | (exact fun _ h => absurd h (List.not_mem_nil)) | (refine List.forall_mem_cons.2 ⟨rfl, ?_⟩))) (by unfold maxLen; rw [HNL.out]; omega) (by rw [HNL.out]; omega) ?_; intro v' w9 xs' hA9 hg9 hb9; have hP := FApp.push hA4 hA9 (by simp; omega) hb9; rw [← HC2.out] at hP; obtain ⟨g9, cap9, hv9, hc9, hm9, hl9, hR9⟩ := hP.app.toRow (by rw [HNS.out]; omega); rw [HNS.out] at hv9; subst hv9)
          go_roundw
          case rel =>
            have hla9 : ∀ q, (Value.slice (some ⟨g9, 0, none⟩) (k + 1) cap9).ownBlock = some q → q ≠ w2.heap.size + 2 := by
              intro q hq
              rcases hb9 with e | e
              · rw [e] at hq; exact hla q hq
              · rw [e] at hq; simp at hq; omega
            exact ⟨k + 1, some ⟨g9, 0, none⟩, cap9, Fs ++ [[]], _, by omega, by go_num, rfl, hP, hla9, (hZ.alloc _).grown hg9 (fun q hq e => by have h1 := hZl q hq; have h2 := hA4.low q e.symm; omega), he1.trans hA9.ext, by have := hg9.size; simp at this; omega, ((Bx.alloc hBb_7 (by omega) #[.int .i64 ((cpTo b.ops k).last[(o.k).toNat])] 3).grown hg9 (by simp; omega) (hA4.ne (by omega))), (fz_grown (fz_alloc hFb_7 (by omega) (.cells #[.int .i64 ((cpTo b.ops k).last[(o.k).toNat])] 3)) hg9 (by simp; omega) (hA4.ne (by omega))), ((Bx.alloc hBres_7 (by omega) #[.int .i64 ((cpTo b.ops k).last[(o.k).toNat])] 3).grown hg9 (by simp; omega) (hA4.ne (by omega))), (fz_grown (fz_alloc hFres_7 (by omega) (.cells #[.int .i64 ((cpTo b.ops k).last[(o.k).toNat])] 3)) hg9 (by simp; omega) (hA4.ne (by omega))), ((Bx.alloc hBx_7 (by omega) #[.int .i64 ((cpTo b.ops k).last[(o.k).toNat])] 3).grown hg9 (by simp; omega) (hA4.ne (by omega))), (fz_grown (fz_alloc hFx_7 (by omega) (.cells #[.int .i64 ((cpTo b.ops k).last[(o.k).toNat])] 3)) hg9 (by simp; omega) (hA4.ne (by omega))), ((hRo_7.alloc (.cells #[.int .i64 ((cpTo b.ops k).last[(o.k).toNat])] 3)).grown hg9 (hA4.ne (by omega))), ((hRla_7.alloc (.cells #[.int .i64 ((cpTo b.ops k).last[(o.k).toNat])] 3)).grown hg9 (fun e => hla _ e.symm rfl))⟩
          case measure => (simp [intOf]; try omega)
        · 
          have HC := hide (cp_new b.ops k hlt k2 (by rw [← HKK.out, ← HGI.out]; exact hge))
          clear k2
          have hge2 : decide ((0 : Int) ≤ (cpTo b.ops k).last[(o.k).toNat]) = false := decide_eq_false hge
          have HC2 := hide (show (cpTo b.ops (k + 1)).names = (cpTo b.ops k).names ++ [(k : Int)] by rw [HC.out])
          have yo : w5.heap.size < w6.heap.size := by omega
          have xo0 := hBo_6 0 _ rfl
          have xo1 := hBo_6 1 _ rfl
          have xo2 := hBo_6 2 _ rfl
          have xo3 := hBo_6 3 _ rfl
          have xo4 := hBo_6 4 _ rfl
          go_upto_region 18 with fail
          clear xo0 xo1 xo2 xo3 xo4 yo
          have hA4 := FApp.set2 (hA3) (p := ⟨w2.heap.size + 2, (o.k).toNat, none⟩) (by show w1.heap.size ≤ w2.heap.size + 2; omega) (fun e => hla _ e rfl) (.int .i64 (k : Int))
          clear ga zga yga
          replace hZ : Room w.heap.size (Rep.sz IrOp) 58 (w6.setCell ⟨w2.heap.size + 2, (o.k).toNat, none⟩ (.int .i64 (k : Int))) _ := Room.hold hZ
          have he7 : Ext w (w6.setCell ⟨w2.heap.size + 2, (o.k).toNat, none⟩ (.int .i64 (k : Int))) := (Ext.hold he6)
          have hs7 : w6.heap.size + 0 ≤ ((w6.setCell ⟨w2.heap.size + 2, (o.k).toNat, none⟩ (.int .i64 (k : Int)))).heap.size := by simp
          have hq7 := hide (show ((w6.setCell ⟨w2.heap.size + 2, (o.k).toNat, none⟩ (.int .i64 (k : Int)))).heap.size = w6.heap.size + 0 by simp)
          have hlto_7 : bo < w6.heap.size := hRo_6.lt
          have hltla_7 : w2.heap.size + 2 < w6.heap.size := hRla_6.lt
          have hBb_7 : Bx ((w6.setCell ⟨w2.heap.size + 2, (o.k).toNat, none⟩ (.int .i64 (k : Int)))) (w.heap.size) [.int .i64 b.pc, .int .i64 b.len, (.slice Ab1 b.ops.length cb1), .int .i64 b.fin, .int .i64 b.x, .int .i64 b.y, .int .i64 b.k] := Bx.hold hBb_6
          have hFb_7 : ∀ oo, ((w6.setCell ⟨w2.heap.size + 2, (o.k).toNat, none⟩ (.int .i64 (k : Int)))).frozen? ⟨w.heap.size, oo, none⟩ = false := (fz_hold hFb_6)
          have hBres_7 : Bx ((w6.setCell ⟨w2.heap.size + 2, (o.k).toNat, none⟩ (.int .i64 (k : Int)))) (w.heap.size + 1) [.int .i64 0, .int .i64 0, .slice none 0 0, .int .i64 0, .int .i64 0, .int .i64 0, .int .i64 0] := Bx.hold hBres_6
          have hFres_7 : ∀ oo, ((w6.setCell ⟨w2.heap.size + 2, (o.k).toNat, none⟩ (.int .i64 (k : Int)))).frozen? ⟨w.heap.size + 1, oo, none⟩ = false := (fz_hold hFres_6)
          have hBx_7 : Bx ((w6.setCell ⟨w2.heap.size + 2, (o.k).toNat, none⟩ (.int .i64 (k : Int)))) (w2.heap.size) [.int .i64 b.pc, .int .i64 b.len, (.slice (some ⟨bo, oo1, none⟩) b.ops.length d1), .int .i64 b.fin, .int .i64 b.x, .int .i64 b.y, .int .i64 b.k] := Bx.hold hBx_6
          have hFx_7 : ∀ oo, ((w6.setCell ⟨w2.heap.size + 2, (o.k).toNat, none⟩ (.int .i64 (k : Int)))).frozen? ⟨w2.heap.size, oo, none⟩ = false := (fz_hold hFx_6)
          have hBo_7 : Bx ((w6.setCell ⟨w2.heap.size + 2, (o.k).toNat, none⟩ (.int .i64 (k : Int)))) (w5.heap.size) [.int .i64 o.kind, .int .i64 o.x, .int .i64 o.y, .int .i64 o.k, .int .i64 o.at_] := Bx.hold hBo_6
          have hFo_7 : ∀ oo, ((w6.setCell ⟨w2.heap.size + 2, (o.k).toNat, none⟩ (.int .i64 (k : Int)))).frozen? ⟨w5.heap.size, oo, none⟩ = false := (fz_hold hFo_6)
          have hRo_7 : FRow ((w6.setCell ⟨w2.heap.size + 2, (o.k).toNat, none⟩ (.int .i64 (k : Int)))) (bo) oo1 (cpOps b.ops (k + 1)) := FRow.hold hRo_6
          have hRla_7 : FRow ((w6.setCell ⟨w2.heap.size + 2, (o.k).toNat, none⟩ (.int .i64 (k : Int)))) (w2.heap.size + 2) 0 ((cpTo b.ops (k + 1)).last) := (by rw [HC.out, ← HKK.out]; exact hRla_6.setInt0 hinA _ (fits_small (by omega) (by omega)))
          generalize (w6.setCell ⟨w2.heap.size + 2, (o.k).toNat, none⟩ (.int .i64 (k : Int))) = w7 at *
          clear hBb_6 hFb_6 hBres_6 hFres_6 hBx_6 hFx_6 hBo_6 hFo_6 hRo_6 hRla_6
          clear hA3
          go_wp2_with (at_builtin; refine wpList_append_push2 (w0 := w1) (wr := w7) rfl _ _ 41 rfl i1 _ 8 Try.underlying41 HI1.out HZ01.out HZ11.out HZ21.out rfl (by decide) hA4.app rfl ((k : Int)) #[.int .i64 ((k : Int))] 3 [] _ rfl (Ext.refl _) ⟨⟨rfl, (fits_small (by omega) (by omega))⟩, rfl⟩ (Fr.nil _ _) (by repeat (first | (exact fun _ h => absurd h (List.not_mem_nil)) | (refine List.forall_mem_cons.2 ⟨rfl, ?_⟩))) (by unfold maxLen; rw [HNL.out]; omega) (by rw [HNL.out]; omega) ?_; intro v' w9 xs' hA9 hg9 hb9; have hP := FApp.push hA4 hA9 (by simp; omega) hb9; rw [← HC2.out] at hP; obtain ⟨g9, cap9, hv9, hc9, hm9, hl9, hR9⟩ := hP.app.toRow (by rw [HNS.out]; omega); rw [HNS.out] at hv9; subst hv9)
          go_roundw
          case rel =>
            have hla9 : ∀ q, (Value.slice (some ⟨g9, 0, none⟩) (k + 1) cap9).ownBlock = some q → q ≠ w2.heap.size + 2 := by
              intro q hq
              rcases hb9 with e | e
              · rw [e] at hq; exact hla q hq
              · rw [e] at hq; simp at hq; omega
            exact ⟨k + 1, some ⟨g9, 0, none⟩, cap9, Fs ++ [[]], _, by omega, by go_num, rfl, hP, hla9, (hZ.alloc _).grown hg9 (fun q hq e => by have h1 := hZl q hq; have h2 := hA4.low q e.symm; omega), he1.trans hA9.ext, by have := hg9.size; simp at this; omega, ((Bx.alloc hBb_7 (by omega) #[.int .i64 ((k : Int))] 3).grown hg9 (by simp; omega) (hA4.ne (by omega))), (fz_grown (fz_alloc hFb_7 (by omega) (.cells #[.int .i64 ((k : Int))] 3)) hg9 (by simp; omega) (hA4.ne (by omega))), ((Bx.alloc hBres_7 (by omega) #[.int .i64 ((k : Int))] 3).grown hg9 (by simp; omega) (hA4.ne (by omega))), (fz_grown (fz_alloc hFres_7 (by omega) (.cells #[.int .i64 ((k : Int))] 3)) hg9 (by simp; omega) (hA4.ne (by omega))), ((Bx.alloc hBx_7 (by omega) #[.int .i64 ((k : Int))] 3).grown hg9 (by simp; omega) (hA4.ne (by omega))), (fz_grown (fz_alloc hFx_7 (by omega) (.cells #[.int .i64 ((k : Int))] 3)) hg9 (by simp; omega) (hA4.ne (by omega))), ((hRo_7.alloc (.cells #[.int .i64 ((k : Int))] 3)).grown hg9 (hA4.ne (by omega))), ((hRla_7.alloc (.cells #[.int .i64 ((k : Int))] 3)).grown hg9 (fun e => hla _ e.symm rfl))⟩
          case measure => (simp [intOf]; try omega)
      · 
        have q2 : (o.kind == 2) = false := by rw [HKD.out]; simp [k2]
        by_cases k8 : b.ops[k].kind = 8
        · 
          have hr := HKR.out (by simp [k8])
          rw [← HKK.out] at hr
          have hr0 := hr.1
          have hr1 := hr.2
          have hinA : (o.k).toNat < (cpTo b.ops k).last.length := by rw [HLA.out]; omega
          clear hr
          have q8 : (o.kind == 8) = true := by rw [HKD.out]; simp [k8]
          have HX := hide (HKX.out k8)
          have HC := hide (cp_put b.ops k hlt k8)
          clear k2 k8
          have ga := hRla_6.int0 (i := (o.k).toNat) (hinA)
          have zga := hRla_6.fz
          have yga : w2.heap.size + 2 < w6.heap.size := hRla_6.lt
          have HC2 := hide (show (cpTo b.ops (k + 1)).names = (cpTo b.ops k).names ++ [(k : Int)] by rw [HC.out])
          have yo : w5.heap.size < w6.heap.size := by omega
          have xo0 := hBo_6 0 _ rfl
          have xo1 := hBo_6 1 _ rfl
          have xo2 := hBo_6 2 _ rfl
          have xo3 := hBo_6 3 _ rfl
          have xo4 := hBo_6 4 _ rfl
          go_upto_region 18 with fail
          clear xo0 xo1 xo2 xo3 xo4 yo
          have hA4 := FApp.set2 (hA3) (p := ⟨w2.heap.size + 2, (o.k).toNat, none⟩) (by show w1.heap.size ≤ w2.heap.size + 2; omega) (fun e => hla _ e rfl) (.int .i64 o.x)
          clear ga zga yga
          replace hZ : Room w.heap.size (Rep.sz IrOp) 58 (w6.setCell ⟨w2.heap.size + 2, (o.k).toNat, none⟩ (.int .i64 o.x)) _ := Room.hold hZ
          have he7 : Ext w (w6.setCell ⟨w2.heap.size + 2, (o.k).toNat, none⟩ (.int .i64 o.x)) := (Ext.hold he6)
          have hs7 : w6.heap.size + 0 ≤ ((w6.setCell ⟨w2.heap.size + 2, (o.k).toNat, none⟩ (.int .i64 o.x))).heap.size := by simp
          have hq7 := hide (show ((w6.setCell ⟨w2.heap.size + 2, (o.k).toNat, none⟩ (.int .i64 o.x))).heap.size = w6.heap.size + 0 by simp)
          have hlto_7 : bo < w6.heap.size := hRo_6.lt
          have hltla_7 : w2.heap.size + 2 < w6.heap.size := hRla_6.lt
          have hBb_7 : Bx ((w6.setCell ⟨w2.heap.size + 2, (o.k).toNat, none⟩ (.int .i64 o.x))) (w.heap.size) [.int .i64 b.pc, .int .i64 b.len, (.slice Ab1 b.ops.length cb1), .int .i64 b.fin, .int .i64 b.x, .int .i64 b.y, .int .i64 b.k] := Bx.hold hBb_6
          have hFb_7 : ∀ oo, ((w6.setCell ⟨w2.heap.size + 2, (o.k).toNat, none⟩ (.int .i64 o.x))).frozen? ⟨w.heap.size, oo, none⟩ = false := (fz_hold hFb_6)
          have hBres_7 : Bx ((w6.setCell ⟨w2.heap.size + 2, (o.k).toNat, none⟩ (.int .i64 o.x))) (w.heap.size + 1) [.int .i64 0, .int .i64 0, .slice none 0 0, .int .i64 0, .int .i64 0, .int .i64 0, .int .i64 0] := Bx.hold hBres_6
          have hFres_7 : ∀ oo, ((w6.setCell ⟨w2.heap.size + 2, (o.k).toNat, none⟩ (.int .i64 o.x))).frozen? ⟨w.heap.size + 1, oo, none⟩ = false := (fz_hold hFres_6)
          have hBx_7 : Bx ((w6.setCell ⟨w2.heap.size + 2, (o.k).toNat, none⟩ (.int .i64 o.x))) (w2.heap.size) [.int .i64 b.pc, .int .i64 b.len, (.slice (some ⟨bo, oo1, none⟩) b.ops.length d1), .int .i64 b.fin, .int .i64 b.x, .int .i64 b.y, .int .i64 b.k] := Bx.hold hBx_6
          have hFx_7 : ∀ oo, ((w6.setCell ⟨w2.heap.size + 2, (o.k).toNat, none⟩ (.int .i64 o.x))).frozen? ⟨w2.heap.size, oo, none⟩ = false := (fz_hold hFx_6)
          have hBo_7 : Bx ((w6.setCell ⟨w2.heap.size + 2, (o.k).toNat, none⟩ (.int .i64 o.x))) (w5.heap.size) [.int .i64 o.kind, .int .i64 o.x, .int .i64 o.y, .int .i64 o.k, .int .i64 o.at_] := Bx.hold hBo_6
          have hFo_7 : ∀ oo, ((w6.setCell ⟨w2.heap.size + 2, (o.k).toNat, none⟩ (.int .i64 o.x))).frozen? ⟨w5.heap.size, oo, none⟩ = false := (fz_hold hFo_6)
          have hRo_7 : FRow ((w6.setCell ⟨w2.heap.size + 2, (o.k).toNat, none⟩ (.int .i64 o.x))) (bo) oo1 (cpOps b.ops (k + 1)) := FRow.hold hRo_6
          have hRla_7 : FRow ((w6.setCell ⟨w2.heap.size + 2, (o.k).toNat, none⟩ (.int .i64 o.x))) (w2.heap.size + 2) 0 ((cpTo b.ops (k + 1)).last) := (by rw [HC.out, ← HKK.out, ← HX.out]; exact hRla_6.setInt0 hinA _ hRx)
          generalize (w6.setCell ⟨w2.heap.size + 2, (o.k).toNat, none⟩ (.int .i64 o.x)) = w7 at *
          clear hBb_6 hFb_6 hBres_6 hFres_6 hBx_6 hFx_6 hBo_6 hFo_6 hRo_6 hRla_6
          clear hA3
          go_wp2_with (at_builtin; refine wpList_append_push2 (w0 := w1) (wr := w7) rfl _ _ 41 rfl i1 _ 8 Try.underlying41 HI1.out HZ01.out HZ11.out HZ21.out rfl (by decide) hA4.app rfl ((k : Int)) #[.int .i64 ((k : Int))] 3 [] _ rfl (Ext.refl _) ⟨⟨rfl, (fits_small (by omega) (by omega))⟩, rfl⟩ (Fr.nil _ _) (by repeat (first | (exact fun _ h => absurd h (List.not_mem_nil)) | (refine List.forall_mem_cons.2 ⟨rfl, ?_⟩))) (by unfold maxLen; rw [HNL.out]; omega) (by rw [HNL.out]; omega) ?_; intro v' w9 xs' hA9 hg9 hb9; have hP := FApp.push hA4 hA9 (by simp; omega) hb9; rw [← HC2.out] at hP; obtain ⟨g9, cap9, hv9, hc9, hm9, hl9, hR9⟩ := hP.app.toRow (by rw [HNS.out]; omega); rw [HNS.out] at hv9; subst hv9)
          go_roundw
          case rel =>
            have hla9 : ∀ q, (Value.slice (some ⟨g9, 0, none⟩) (k + 1) cap9).ownBlock = some q → q ≠ w2.heap.size + 2 := by
              intro q hq
              rcases hb9 with e | e
              · rw [e] at hq; exact hla q hq
              · rw [e] at hq; simp at hq; omega
            exact ⟨k + 1, some ⟨g9, 0, none⟩, cap9, Fs ++ [[]], _, by omega, by go_num, rfl, hP, hla9, (hZ.alloc _).grown hg9 (fun q hq e => by have h1 := hZl q hq; have h2 := hA4.low q e.symm; omega), he1.trans hA9.ext, by have := hg9.size; simp at this; omega, ((Bx.alloc hBb_7 (by omega) #[.int .i64 ((k : Int))] 3).grown hg9 (by simp; omega) (hA4.ne (by omega))), (fz_grown (fz_alloc hFb_7 (by omega) (.cells #[.int .i64 ((k : Int))] 3)) hg9 (by simp; omega) (hA4.ne (by omega))), ((Bx.alloc hBres_7 (by omega) #[.int .i64 ((k : Int))] 3).grown hg9 (by simp; omega) (hA4.ne (by omega))), (fz_grown (fz_alloc hFres_7 (by omega) (.cells #[.int .i64 ((k : Int))] 3)) hg9 (by simp; omega) (hA4.ne (by omega))), ((Bx.alloc hBx_7 (by omega) #[.int .i64 ((k : Int))] 3).grown hg9 (by simp; omega) (hA4.ne (by omega))), (fz_grown (fz_alloc hFx_7 (by omega) (.cells #[.int .i64 ((k : Int))] 3)) hg9 (by simp; omega) (hA4.ne (by omega))), ((hRo_7.alloc (.cells #[.int .i64 ((k : Int))] 3)).grown hg9 (hA4.ne (by omega))), ((hRla_7.alloc (.cells #[.int .i64 ((k : Int))] 3)).grown hg9 (fun e => hla _ e.symm rfl))⟩
          case measure => (simp [intOf]; try omega)
        · 
          have q8 : (o.kind == 8) = false := by rw [HKD.out]; simp [k8]
          have HC := hide (cp_no b.ops k hlt k2 k8)
          clear k2 k8
          have HC2 := hide (show (cpTo b.ops (k + 1)).names = (cpTo b.ops k).names ++ [(k : Int)] by rw [HC.out])
          have yo : w5.heap.size < w6.heap.size := by omega
          have xo0 := hBo_6 0 _ rfl
          have xo1 := hBo_6 1 _ rfl
          have xo2 := hBo_6 2 _ rfl
          have xo3 := hBo_6 3 _ rfl
          have xo4 := hBo_6 4 _ rfl
          go_upto_region 18 with fail
          clear xo0 xo1 xo2 xo3 xo4 yo
          have hA4 := hA3
          rw [show (cpTo b.ops k).last = (cpTo b.ops (k + 1)).last by rw [HC.out]] at hRla_6
          clear hA3
          go_wp2_with (at_builtin; refine wpList_append_push2 (w0 := w1) (wr := w6) rfl _ _ 41 rfl i1 _ 8 Try.underlying41 HI1.out HZ01.out HZ11.out HZ21.out rfl (by decide) hA4.app rfl ((k : Int)) #[.int .i64 ((k : Int))] 3 [] _ rfl (Ext.refl _) ⟨⟨rfl, (fits_small (by omega) (by omega))⟩, rfl⟩ (Fr.nil _ _) (by repeat (first | (exact fun _ h => absurd h (List.not_mem_nil)) | (refine List.forall_mem_cons.2 ⟨rfl, ?_⟩))) (by unfold maxLen; rw [HNL.out]; omega) (by rw [HNL.out]; omega) ?_; intro v' w9 xs' hA9 hg9 hb9; have hP := FApp.push hA4 hA9 (by simp; omega) hb9; rw [← HC2.out] at hP; obtain ⟨g9, cap9, hv9, hc9, hm9, hl9, hR9⟩ := hP.app.toRow (by rw [HNS.out]; omega); rw [HNS.out] at hv9; subst hv9)
          go_roundw
          case rel =>
            have hla9 : ∀ q, (Value.slice (some ⟨g9, 0, none⟩) (k + 1) cap9).ownBlock = some q → q ≠ w2.heap.size + 2 := by
              intro q hq
              rcases hb9 with e | e
              · rw [e] at hq; exact hla q hq
              · rw [e] at hq; simp at hq; omega
            exact ⟨k + 1, some ⟨g9, 0, none⟩, cap9, Fs ++ [[]], _, by omega, by go_num, rfl, hP, hla9, (hZ.alloc _).grown hg9 (fun q hq e => by have h1 := hZl q hq; have h2 := hA4.low q e.symm; omega), he1.trans hA9.ext, by have := hg9.size; simp at this; omega, ((Bx.alloc hBb_6 (by omega) #[.int .i64 ((k : Int))] 3).grown hg9 (by simp; omega) (hA4.ne (by omega))), (fz_grown (fz_alloc hFb_6 (by omega) (.cells #[.int .i64 ((k : Int))] 3)) hg9 (by simp; omega) (hA4.ne (by omega))), ((Bx.alloc hBres_6 (by omega) #[.int .i64 ((k : Int))] 3).grown hg9 (by simp; omega) (hA4.ne (by omega))), (fz_grown (fz_alloc hFres_6 (by omega) (.cells #[.int .i64 ((k : Int))] 3)) hg9 (by simp; omega) (hA4.ne (by omega))), ((Bx.alloc hBx_6 (by omega) #[.int .i64 ((k : Int))] 3).grown hg9 (by simp; omega) (hA4.ne (by omega))), (fz_grown (fz_alloc hFx_6 (by omega) (.cells #[.int .i64 ((k : Int))] 3)) hg9 (by simp; omega) (hA4.ne (by omega))), ((hRo_6.alloc (.cells #[.int .i64 ((k : Int))] 3)).grown hg9 (hA4.ne (by omega))), ((hRla_6.alloc (.cells #[.int .i64 ((k : Int))] 3)).grown hg9 (fun e => hla _ e.symm rfl))⟩
          case measure => (simp [intOf]; try omega)
    · 
      obtain rfl : k = b.ops.length := by omega
      rw [cpOps_all] at hRo_4
      clear hRla_4
      have hNl := cpTo_names b.ops b.ops.length (Nat.le_refl _)
      have hDB := optCopy_eq HOK.out
      generalize (cpTo b.ops b.ops.length).names = N at *
      have HFE := end_fin (ok_end HOK.out)
      have hX := fun q => end_x (ok_end HOK.out) q
      have hY := fun q => end_y (ok_end HOK.out) q
      obtain ⟨F6, ho6, hf6⟩ := hA.app.done
      have hS6 := ho6.old hf6
      have hlow := hA.low
      clear hA ho6 hf6 hla
      have HC : b.fin = 1 ∨ b.fin = 2 ∨ b.fin = 3 ∨ b.fin = 4 := by omega
      clear HFE
      rw [← hNl] at hX hY
      have HNL := hide hNl
      clear hNl
      rcases HC with e | e | e | e
      · 
        have q1 : (b.fin != 1) = false := by rw [e]; rfl
        have q3 : (b.fin == 3) = false := by rw [e]; rfl
        have q4 : (b.fin == 4) = false := by rw [e]; rfl
        have qX : endX b.fin = false := by rw [e]; rfl
        have qY : endY b.fin = false := by rw [e]; rfl
        clear e
        have EX := hide (show (renEnd N b (b.ops.map (ren N))).x = b.x by show (if endX b.fin = true then gI N b.x else b.x) = _; rw [qX]; rfl)
        have EY := hide (show (renEnd N b (b.ops.map (ren N))).y = b.y by show (if endY b.fin = true then gI N b.y else b.y) = _; rw [qY]; rfl)
        have HDB := hide hDB
        clear hDB hX hY qX qY
        have yx : w2.heap.size < w4.heap.size := by omega
        have xx0 := hBx_4 0 _ rfl
        have xx1 := hBx_4 1 _ rfl
        have xx2 := hBx_4 2 _ rfl
        have xx3 := hBx_4 3 _ rfl
        have xx4 := hBx_4 4 _ rfl
        have xx5 := hBx_4 5 _ rfl
        have xx6 := hBx_4 6 _ rfl
        have yres : w.heap.size + 1 < w4.heap.size := by omega
        have xres0 := hBres_4 0 _ rfl
        have xres1 := hBres_4 1 _ rfl
        have xres2 := hBres_4 2 _ rfl
        have xres3 := hBres_4 3 _ rfl
        have xres4 := hBres_4 4 _ rfl
        have xres5 := hBres_4 5 _ rfl
        have xres6 := hBres_4 6 _ rfl
        have fx := hFx_4
        have fres := hFres_4
        go_wp2
        have hE : ∃ F, OwnSl w4 (.slice B1 b.ops.length d1) (optCopy b).ops F ∧ Fr w w4 F ∧ ∀ q, q ∈ F → q = bo ∧ w1.heap.size ≤ bo := by
          rw [HDB.out]
          show ∃ F, OwnSl w4 (.slice B1 b.ops.length d1) (b.ops.map (ren N)) F ∧ _
          by_cases hK0 : b.ops = []
          · obtain ⟨_, _, h1, h2, h3, h0, _, _⟩ := ho1
            injection h1 with h1 h4 h5
            subst h1 h5
            rw [hK0]
            exact ⟨[], ⟨_, _, rfl, Nat.zero_le _, h3, h0, fun _ => rfl, fun h => absurd rfl h⟩, Fr.nil _ _, fun q hq => by simp at hq⟩
          · obtain ⟨hB1, hbo4⟩ := HV.out hK0
            subst hB1
            have hS := hRo_4.ownB (n := b.ops.length) (c := d1) (by simp) (by simpa using hd1) hm1 (show w.heap.size ≤ bo by omega)
            obtain ⟨F, g1, g2, g3⟩ := hS
            exact ⟨F, g1, g2, fun q hq => ⟨g3 q hq, hbo4⟩⟩
        obtain ⟨F5, ho5, hf5, hq5⟩ := hE
        first
        | refine bodyPost_ret (v := .agg #[.int .i64 b.pc, .int .i64 b.len, (.slice B1 b.ops.length d1), .int .i64 b.fin, .int .i64 b.x, .int .i64 b.y, .int .i64 b.k]) (by simp [results, Try.results77, go_sem, xres0, xres1, xres2, xres3, xres4, xres5, xres6, yres]) rfl ⟨_, F5, by rw [HDB.out, EX.out, EY.out]; rfl, ?_, ?_, ?_, Room.hold hZ⟩
        | refine bodyPost_ret (v := .agg #[.int .i64 b.pc, .int .i64 b.len, (.slice B1 b.ops.length d1), .int .i64 b.fin, .int .i64 b.x, .int .i64 b.y, .int .i64 b.k]) (by simp [results, Try.results77, go_sem, xres0, xres1, xres2, xres3, xres4, xres5, xres6, yres]) rfl ⟨_, by rw [HDB.out, EX.out, EY.out]; rfl, F5, ?_, ?_, ?_, Room.hold hZ⟩
        · exact OwnSl.stay ho5 (fun b hb => by
            have q := hf5.2 b hb; have q1 := q.1; have q2 := q.2
            obtain ⟨q3, q4⟩ := hq5 b hb
            repeat (first | rw [heap_set _ _ _ _ (by simp; omega)]))
        · exact hf5.mk1 (by omega) (by first | (simp; done) | (simp; omega))
        · exact (Ext.hold he4)
      · 
        have q1 : (b.fin != 1) = true := by rw [e]; rfl
        have q3 : (b.fin == 3) = false := by rw [e]; rfl
        have q4 : (b.fin == 4) = false := by rw [e]; rfl
        have qX : endX b.fin = true := by rw [e]; rfl
        have qY : endY b.fin = false := by rw [e]; rfl
        clear e
        have ix := hX qX
        have ix0 := ix.1
        have ix1 := ix.2
        have hnx : (b.x).toNat < N.length := by omega
        have EX := hide (show (renEnd N b (b.ops.map (ren N))).x = N[(b.x).toNat] by show (if endX b.fin = true then gI N b.x else b.x) = _; rw [qX]; simp [gI, List.getElem?_eq_getElem hnx])
        have EY := hide (show (renEnd N b (b.ops.map (ren N))).y = b.y by show (if endY b.fin = true then gI N b.y else b.y) = _; rw [qY]; rfl)
        have HDB := hide hDB
        clear hDB hX hY qX qY
        obtain ⟨bbx, oox, rfl, hbx, hfx, ex⟩ := at_Int hS6 hnx
        have hlx : bbx < w4.heap.size := hbx
        have z0 : (b.x) < (b.ops.length : Int) := by rw [← HNL.out]; exact ix1
        have hdx : w2.heap.size ≠ bbx := by have := hlow bbx rfl; omega
        have hdx2 : w2.heap.size = bbx ↔ False := ⟨hdx, False.elim⟩
        clear hlow
        have yx : w2.heap.size < w4.heap.size := by omega
        have xx0 := hBx_4 0 _ rfl
        have xx1 := hBx_4 1 _ rfl
        have xx2 := hBx_4 2 _ rfl
        have xx3 := hBx_4 3 _ rfl
        have xx4 := hBx_4 4 _ rfl
        have xx5 := hBx_4 5 _ rfl
        have xx6 := hBx_4 6 _ rfl
        have yres : w.heap.size + 1 < w4.heap.size := by omega
        have xres0 := hBres_4 0 _ rfl
        have xres1 := hBres_4 1 _ rfl
        have xres2 := hBres_4 2 _ rfl
        have xres3 := hBres_4 3 _ rfl
        have xres4 := hBres_4 4 _ rfl
        have xres5 := hBres_4 5 _ rfl
        have xres6 := hBres_4 6 _ rfl
        have fx := hFx_4
        have fres := hFres_4
        go_wp2
        have hE : ∃ F, OwnSl w4 (.slice B1 b.ops.length d1) (optCopy b).ops F ∧ Fr w w4 F ∧ ∀ q, q ∈ F → q = bo ∧ w1.heap.size ≤ bo := by
          rw [HDB.out]
          show ∃ F, OwnSl w4 (.slice B1 b.ops.length d1) (b.ops.map (ren N)) F ∧ _
          by_cases hK0 : b.ops = []
          · obtain ⟨_, _, h1, h2, h3, h0, _, _⟩ := ho1
            injection h1 with h1 h4 h5
            subst h1 h5
            rw [hK0]
            exact ⟨[], ⟨_, _, rfl, Nat.zero_le _, h3, h0, fun _ => rfl, fun h => absurd rfl h⟩, Fr.nil _ _, fun q hq => by simp at hq⟩
          · obtain ⟨hB1, hbo4⟩ := HV.out hK0
            subst hB1
            have hS := hRo_4.ownB (n := b.ops.length) (c := d1) (by simp) (by simpa using hd1) hm1 (show w.heap.size ≤ bo by omega)
            obtain ⟨F, g1, g2, g3⟩ := hS
            exact ⟨F, g1, g2, fun q hq => ⟨g3 q hq, hbo4⟩⟩
        obtain ⟨F5, ho5, hf5, hq5⟩ := hE
        first
        | refine bodyPost_ret (v := .agg #[.int .i64 b.pc, .int .i64 b.len, (.slice B1 b.ops.length d1), .int .i64 b.fin, .int .i64 N[(b.x).toNat], .int .i64 b.y, .int .i64 b.k]) (by simp [results, Try.results77, go_sem, xres0, xres1, xres2, xres3, xres4, xres5, xres6, yres]) rfl ⟨_, F5, by rw [HDB.out, EX.out, EY.out]; rfl, ?_, ?_, ?_, Room.hold hZ⟩
        | refine bodyPost_ret (v := .agg #[.int .i64 b.pc, .int .i64 b.len, (.slice B1 b.ops.length d1), .int .i64 b.fin, .int .i64 N[(b.x).toNat], .int .i64 b.y, .int .i64 b.k]) (by simp [results, Try.results77, go_sem, xres0, xres1, xres2, xres3, xres4, xres5, xres6, yres]) rfl ⟨_, by rw [HDB.out, EX.out, EY.out]; rfl, F5, ?_, ?_, ?_, Room.hold hZ⟩
        · exact OwnSl.stay ho5 (fun b hb => by
            have q := hf5.2 b hb; have q1 := q.1; have q2 := q.2
            obtain ⟨q3, q4⟩ := hq5 b hb
            repeat (first | rw [heap_set _ _ _ _ (by simp; omega)]))
        · exact hf5.mk1 (by omega) (by first | (simp; done) | (simp; omega))
        · exact (Ext.hold he4)
      · 
        have q1 : (b.fin != 1) = true := by rw [e]; rfl
        have q3 : (b.fin == 3) = true := by rw [e]; rfl
        have q4 : (b.fin == 4) = false := by rw [e]; rfl
        have qX : endX b.fin = true := by rw [e]; rfl
        have qY : endY b.fin = true := by rw [e]; rfl
        clear e
        have ix := hX qX
        have ix0 := ix.1
        have ix1 := ix.2
        have hnx : (b.x).toNat < N.length := by omega
        have EX := hide (show (renEnd N b (b.ops.map (ren N))).x = N[(b.x).toNat] by show (if endX b.fin = true then gI N b.x else b.x) = _; rw [qX]; simp [gI, List.getElem?_eq_getElem hnx])
        have iy := hY qY
        have iy0 := iy.1
        have iy1 := iy.2
        have hny : (b.y).toNat < N.length := by omega
        have EY := hide (show (renEnd N b (b.ops.map (ren N))).y = N[(b.y).toNat] by show (if endY b.fin = true then gI N b.y else b.y) = _; rw [qY]; simp [gI, List.getElem?_eq_getElem hny])
        have HDB := hide hDB
        clear hDB hX hY qX qY
        obtain ⟨bbx, oox, rfl, hbx, hfx, ex⟩ := at_Int hS6 hnx
        have hlx : bbx < w4.heap.size := hbx
        have z0 : (b.x) < (b.ops.length : Int) := by rw [← HNL.out]; exact ix1
        have hdx : w2.heap.size ≠ bbx := by have := hlow bbx rfl; omega
        have hdx2 : w2.heap.size = bbx ↔ False := ⟨hdx, False.elim⟩
        clear hlow
        obtain ⟨bby, ooy, hbe, hby, hfy, ey⟩ := at_Int hS6 hny
        injection hbe with hbe
        injection hbe with hbe1 hbe2
        subst hbe1 hbe2
        have z2 : (b.y) < (b.ops.length : Int) := by rw [← HNL.out]; exact iy1
        have yx : w2.heap.size < w4.heap.size := by omega
        have xx0 := hBx_4 0 _ rfl
        have xx1 := hBx_4 1 _ rfl
        have xx2 := hBx_4 2 _ rfl
        have xx3 := hBx_4 3 _ rfl
        have xx4 := hBx_4 4 _ rfl
        have xx5 := hBx_4 5 _ rfl
        have xx6 := hBx_4 6 _ rfl
        have yres : w.heap.size + 1 < w4.heap.size := by omega
        have xres0 := hBres_4 0 _ rfl
        have xres1 := hBres_4 1 _ rfl
        have xres2 := hBres_4 2 _ rfl
        have xres3 := hBres_4 3 _ rfl
        have xres4 := hBres_4 4 _ rfl
        have xres5 := hBres_4 5 _ rfl
        have xres6 := hBres_4 6 _ rfl
        have fx := hFx_4
        have fres := hFres_4
        go_wp2
        have hE : ∃ F, OwnSl w4 (.slice B1 b.ops.length d1) (optCopy b).ops F ∧ Fr w w4 F ∧ ∀ q, q ∈ F → q = bo ∧ w1.heap.size ≤ bo := by
          rw [HDB.out]
          show ∃ F, OwnSl w4 (.slice B1 b.ops.length d1) (b.ops.map (ren N)) F ∧ _
          by_cases hK0 : b.ops = []
          · obtain ⟨_, _, h1, h2, h3, h0, _, _⟩ := ho1
            injection h1 with h1 h4 h5
            subst h1 h5
            rw [hK0]
            exact ⟨[], ⟨_, _, rfl, Nat.zero_le _, h3, h0, fun _ => rfl, fun h => absurd rfl h⟩, Fr.nil _ _, fun q hq => by simp at hq⟩
          · obtain ⟨hB1, hbo4⟩ := HV.out hK0
            subst hB1
            have hS := hRo_4.ownB (n := b.ops.length) (c := d1) (by simp) (by simpa using hd1) hm1 (show w.heap.size ≤ bo by omega)
            obtain ⟨F, g1, g2, g3⟩ := hS
            exact ⟨F, g1, g2, fun q hq => ⟨g3 q hq, hbo4⟩⟩
        obtain ⟨F5, ho5, hf5, hq5⟩ := hE
        first
        | refine bodyPost_ret (v := .agg #[.int .i64 b.pc, .int .i64 b.len, (.slice B1 b.ops.length d1), .int .i64 b.fin, .int .i64 N[(b.x).toNat], .int .i64 N[(b.y).toNat], .int .i64 b.k]) (by simp [results, Try.results77, go_sem, xres0, xres1, xres2, xres3, xres4, xres5, xres6, yres]) rfl ⟨_, F5, by rw [HDB.out, EX.out, EY.out]; rfl, ?_, ?_, ?_, Room.hold hZ⟩
        | refine bodyPost_ret (v := .agg #[.int .i64 b.pc, .int .i64 b.len, (.slice B1 b.ops.length d1), .int .i64 b.fin, .int .i64 N[(b.x).toNat], .int .i64 N[(b.y).toNat], .int .i64 b.k]) (by simp [results, Try.results77, go_sem, xres0, xres1, xres2, xres3, xres4, xres5, xres6, yres]) rfl ⟨_, by rw [HDB.out, EX.out, EY.out]; rfl, F5, ?_, ?_, ?_, Room.hold hZ⟩
        · exact OwnSl.stay ho5 (fun b hb => by
            have q := hf5.2 b hb; have q1 := q.1; have q2 := q.2
            obtain ⟨q3, q4⟩ := hq5 b hb
            repeat (first | rw [heap_set _ _ _ _ (by simp; omega)]))
        · exact hf5.mk1 (by omega) (by first | (simp; done) | (simp; omega))
        · exact (Ext.hold he4)
      · 
        have q1 : (b.fin != 1) = true := by rw [e]; rfl
        have q3 : (b.fin == 3) = false := by rw [e]; rfl
        have q4 : (b.fin == 4) = true := by rw [e]; rfl
        have qX : endX b.fin = true := by rw [e]; rfl
        have qY : endY b.fin = true := by rw [e]; rfl
        clear e
        have ix := hX qX
        have ix0 := ix.1
        have ix1 := ix.2
        have hnx : (b.x).toNat < N.length := by omega
        have EX := hide (show (renEnd N b (b.ops.map (ren N))).x = N[(b.x).toNat] by show (if endX b.fin = true then gI N b.x else b.x) = _; rw [qX]; simp [gI, List.getElem?_eq_getElem hnx])
        have iy := hY qY
        have iy0 := iy.1
        have iy1 := iy.2
        have hny : (b.y).toNat < N.length := by omega
        have EY := hide (show (renEnd N b (b.ops.map (ren N))).y = N[(b.y).toNat] by show (if endY b.fin = true then gI N b.y else b.y) = _; rw [qY]; simp [gI, List.getElem?_eq_getElem hny])
        have HDB := hide hDB
        clear hDB hX hY qX qY
        obtain ⟨bbx, oox, rfl, hbx, hfx, ex⟩ := at_Int hS6 hnx
        have hlx : bbx < w4.heap.size := hbx
        have z0 : (b.x) < (b.ops.length : Int) := by rw [← HNL.out]; exact ix1
        have hdx : w2.heap.size ≠ bbx := by have := hlow bbx rfl; omega
        have hdx2 : w2.heap.size = bbx ↔ False := ⟨hdx, False.elim⟩
        clear hlow
        obtain ⟨bby, ooy, hbe, hby, hfy, ey⟩ := at_Int hS6 hny
        injection hbe with hbe
        injection hbe with hbe1 hbe2
        subst hbe1 hbe2
        have z2 : (b.y) < (b.ops.length : Int) := by rw [← HNL.out]; exact iy1
        have yx : w2.heap.size < w4.heap.size := by omega
        have xx0 := hBx_4 0 _ rfl
        have xx1 := hBx_4 1 _ rfl
        have xx2 := hBx_4 2 _ rfl
        have xx3 := hBx_4 3 _ rfl
        have xx4 := hBx_4 4 _ rfl
        have xx5 := hBx_4 5 _ rfl
        have xx6 := hBx_4 6 _ rfl
        have yres : w.heap.size + 1 < w4.heap.size := by omega
        have xres0 := hBres_4 0 _ rfl
        have xres1 := hBres_4 1 _ rfl
        have xres2 := hBres_4 2 _ rfl
        have xres3 := hBres_4 3 _ rfl
        have xres4 := hBres_4 4 _ rfl
        have xres5 := hBres_4 5 _ rfl
        have xres6 := hBres_4 6 _ rfl
        have fx := hFx_4
        have fres := hFres_4
        go_wp2
        have hE : ∃ F, OwnSl w4 (.slice B1 b.ops.length d1) (optCopy b).ops F ∧ Fr w w4 F ∧ ∀ q, q ∈ F → q = bo ∧ w1.heap.size ≤ bo := by
          rw [HDB.out]
          show ∃ F, OwnSl w4 (.slice B1 b.ops.length d1) (b.ops.map (ren N)) F ∧ _
          by_cases hK0 : b.ops = []
          · obtain ⟨_, _, h1, h2, h3, h0, _, _⟩ := ho1
            injection h1 with h1 h4 h5
            subst h1 h5
            rw [hK0]
            exact ⟨[], ⟨_, _, rfl, Nat.zero_le _, h3, h0, fun _ => rfl, fun h => absurd rfl h⟩, Fr.nil _ _, fun q hq => by simp at hq⟩
          · obtain ⟨hB1, hbo4⟩ := HV.out hK0
            subst hB1
            have hS := hRo_4.ownB (n := b.ops.length) (c := d1) (by simp) (by simpa using hd1) hm1 (show w.heap.size ≤ bo by omega)
            obtain ⟨F, g1, g2, g3⟩ := hS
            exact ⟨F, g1, g2, fun q hq => ⟨g3 q hq, hbo4⟩⟩
        obtain ⟨F5, ho5, hf5, hq5⟩ := hE
        first
        | refine bodyPost_ret (v := .agg #[.int .i64 b.pc, .int .i64 b.len, (.slice B1 b.ops.length d1), .int .i64 b.fin, .int .i64 N[(b.x).toNat], .int .i64 N[(b.y).toNat], .int .i64 b.k]) (by simp [results, Try.results77, go_sem, xres0, xres1, xres2, xres3, xres4, xres5, xres6, yres]) rfl ⟨_, F5, by rw [HDB.out, EX.out, EY.out]; rfl, ?_, ?_, ?_, Room.hold hZ⟩
        | refine bodyPost_ret (v := .agg #[.int .i64 b.pc, .int .i64 b.len, (.slice B1 b.ops.length d1), .int .i64 b.fin, .int .i64 N[(b.x).toNat], .int .i64 N[(b.y).toNat], .int .i64 b.k]) (by simp [results, Try.results77, go_sem, xres0, xres1, xres2, xres3, xres4, xres5, xres6, yres]) rfl ⟨_, by rw [HDB.out, EX.out, EY.out]; rfl, F5, ?_, ?_, ?_, Room.hold hZ⟩
        · exact OwnSl.stay ho5 (fun b hb => by
            have q := hf5.2 b hb; have q1 := q.1; have q2 := q.2
            obtain ⟨q3, q4⟩ := hq5 b hb
            repeat (first | rw [heap_set _ _ _ _ (by simp; omega)]))
        · exact hf5.mk1 (by omega) (by first | (simp; done) | (simp; omega))
        · exact (Ext.hold he4)

theorem specOptCopy_any (b : IrBlock) (vb1 : Value) (w : World) (hb1 : Sl w (Old w) vb1 b.ops) (hkb : b.Ok) :
    Calls Try.prog 77 #[.agg #[.int .i64 b.pc, .int .i64 b.len, vb1, .int .i64 b.fin, .int .i64 b.x, .int .i64 b.y, .int .i64 b.k]] w fun e w' => ∃ r1 F, e = .returned (.agg #[.int .i64 ((optCopy b).pc), .int .i64 ((optCopy b).len), r1, .int .i64 ((optCopy b).fin), .int .i64 ((optCopy b).x), .int .i64 ((optCopy b).y), .int .i64 ((optCopy b).k)]) ∧ OwnSl w' r1 (optCopy b).ops F ∧ Fr w w' F ∧ Ext w w' :=
  (specOptCopyR_any b vb1 w hb1 hkb).mono fun e w' ⟨r1, F, h1, h2, h3, h4, _⟩ => ⟨r1, F, h1, h2, h3, h4⟩

theorem blk_optCopy (b : IrBlock) : Bulk.blk (optCopy b) ≤ Bulk.blk b := by
  rw [blk_ops, blk_ops]
  cases h : irOkB b with
  | true => rw [optCopy_eq h]; show (b.ops.map _).length ≤ _; rw [List.length_map]; exact Nat.le_refl _
  | false => rw [optCopy_no h]; exact Nat.zero_le _

end Go.Proofs.Yteaacelfnkiboaa
