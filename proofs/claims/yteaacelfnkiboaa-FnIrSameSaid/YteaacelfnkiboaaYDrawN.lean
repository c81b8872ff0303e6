/-
  DrawN
-/
import Derived.Test.YteaacelfnkiboaaYOptCopy
import Derived.Test.YteaacelfnkiboaaYRead
import Derived.Test.YteaacelfnkiboaaYDrawI
import Derived.Test.YteaacelfnkiboaaYRoom0Lib
import Derived.Deep.DeepCutAuto
namespace Go.Proofs.Yteaacelfnkiboaa
open Go.RowKit

set_option linter.unusedVariables false
set_option linter.unusedSimpArgs false
set_option maxRecDepth 100000

theorem FRow.turned {α : Type} [Flat α] {F : List Nat} {w w' : World} {b off : Nat} {l : List α} (h : FRow w b off l) (k : Turn F w w') (hn : b ∉ F) : FRow w' b off l :=
  ⟨fun o => (k.frozen h.lt hn).trans (h.fz o), Nat.lt_of_lt_of_le h.lt k.size, fun i a ha => by
    obtain ⟨vs, h1, h2⟩ := h.els i a ha
    exact ⟨vs, Flat.any h1, fun j u hu => (k.cell h.lt hn).trans (h2 j u hu)⟩⟩
theorem GlO.of_row {α : Type} [Flat α] {lo : Nat} {w : World} {g off n c : Nat} {l : List α} (h : FRow w g off l) (hn : n = l.length) (hc : l.length ≤ c) (hm : c ≤ maxLen) (hg : lo ≤ g) : GlO lo w (.slice (some ⟨g, off, none⟩) n c) l := by
  subst hn
  refine ⟨_, c, rfl, hc, hm, fun h => by simp at h, fun _ => ⟨g, off, rfl, ⟨hg, h.lt⟩, fun i a ha => ?_⟩⟩
  obtain ⟨vs, h1, h2⟩ := h.els i a ha
  exact ⟨vs, Flat.any h1, h2⟩
theorem wrap_fits (n : Int) : Fits (wrap64 n) := by unfold Fits wrap64; omega
theorem GlO.take_ {α : Type} [Rep α] {lo : Nat} {w : World} {A : Option Addr} {n c : Nat} {l : List α} (h : GlO lo w (.slice A n c) l) {k : Nat} (hk : k ≤ l.length) : GlO lo w (.slice A k c) (l.take k) := Sl.take_ h hk
theorem FRow.take {α : Type} [Flat α] {w : World} {b off : Nat} {l : List α} (h : FRow w b off l) (k : Nat) : FRow w b off (l.take k) :=
  ⟨h.fz, h.lt, fun i a ha => h.els i a (by rw [List.getElem?_take] at ha; split at ha; exact ha; simp at ha)⟩
theorem Sl.empty {α : Type} [Rep α] {w w' : World} {S S' : Nat → Prop} {v : Value} {l : List α} (h : Sl w S v l) (h0 : l.length = 0) : Sl w' S' v l := by
  obtain ⟨A, c, e, h1, h2, h3, h4⟩ := h
  exact ⟨A, c, e, h1, h2, h3, fun hne => absurd (List.eq_nil_of_length_eq_zero h0) hne⟩

set_option maxHeartbeats 16000000 in
theorem l21Bent_any (rb base P : Nat) (w : World) (h : Rdr rb base P w) (hP : P ≤ 1099511610000) (b : IrBlock) (vb1 : Value) (hb1 : Sl w (Old w) vb1 b.ops) (hkb : b.Ok) (hlen : b.ops.length ≤ 49) (hl0 : 0 ≤ b.len) (hl9 : b.len ≤ 9) :
    Calls Try.prog 76 #[.pointer (some ⟨rb, 0, none⟩), .agg #[.int .i64 b.pc, .int .i64 b.len, vb1, .int .i64 b.fin, .int .i64 b.x, .int .i64 b.y, .int .i64 b.k]] w fun e w' => (∃ (b : IrBlock) (A : Option Addr) (c : Nat), e = .returned (.agg #[.int .i64 b.pc, .int .i64 b.len, .slice A b.ops.length c, .int .i64 b.fin, .int .i64 b.x, .int .i64 b.y, .int .i64 b.k]) ∧ GlO w.heap.size w' (.slice A b.ops.length c) b.ops ∧ b.Ok ∧ b.ops.length ≤ 49) ∧ Rdr rb base (P + 10) w' ∧ Turn [rb] w w' := by
  have hlt := h.lt
  have hlt1 := hlt.1
  have hlt2 := hlt.2
  clear hlt
  obtain ⟨Ab1, cb1, rfl, hlb1, hmb1⟩ := hb1.form
  unfold maxLen at hmb1
  go_enter Try.func76, Try.ntmps76
  go_upto_region 1 with fail
  have he0 : Ext w ((w.alloc (Obj.cells #[.int .i64 b.pc, .int .i64 b.len, (.slice Ab1 b.ops.length cb1), .int .i64 b.fin, .int .i64 b.x, .int .i64 b.y, .int .i64 b.k] 25)).alloc (Obj.cells #[.int .i64 0, .int .i64 0, .slice none 0 0, .int .i64 0, .int .i64 0, .int .i64 0, .int .i64 0] 25)) := (Ext.auto)
  have hs0 : w.heap.size + 2 ≤ (((w.alloc (Obj.cells #[.int .i64 b.pc, .int .i64 b.len, (.slice Ab1 b.ops.length cb1), .int .i64 b.fin, .int .i64 b.x, .int .i64 b.y, .int .i64 b.k] 25)).alloc (Obj.cells #[.int .i64 0, .int .i64 0, .slice none 0 0, .int .i64 0, .int .i64 0, .int .i64 0, .int .i64 0] 25))).heap.size := by simp
  have hq0 := hide (show (((w.alloc (Obj.cells #[.int .i64 b.pc, .int .i64 b.len, (.slice Ab1 b.ops.length cb1), .int .i64 b.fin, .int .i64 b.x, .int .i64 b.y, .int .i64 b.k] 25)).alloc (Obj.cells #[.int .i64 0, .int .i64 0, .slice none 0 0, .int .i64 0, .int .i64 0, .int .i64 0, .int .i64 0] 25))).heap.size = w.heap.size + 2 by simp)
  have hBb_0 : Bx ((w.alloc (Obj.cells #[.int .i64 b.pc, .int .i64 b.len, (.slice Ab1 b.ops.length cb1), .int .i64 b.fin, .int .i64 b.x, .int .i64 b.y, .int .i64 b.k] 25)).alloc (Obj.cells #[.int .i64 0, .int .i64 0, .slice none 0 0, .int .i64 0, .int .i64 0, .int .i64 0, .int .i64 0] 25)) (w.heap.size) [.int .i64 b.pc, .int .i64 b.len, (.slice Ab1 b.ops.length cb1), .int .i64 b.fin, .int .i64 b.x, .int .i64 b.y, .int .i64 b.k] := (by have := (Bx.alloc (Bx.new w #[.int .i64 b.pc, .int .i64 b.len, (.slice Ab1 b.ops.length cb1), .int .i64 b.fin, .int .i64 b.x, .int .i64 b.y, .int .i64 b.k] 25) (by simp) #[.int .i64 0, .int .i64 0, .slice none 0 0, .int .i64 0, .int .i64 0, .int .i64 0, .int .i64 0] 25); simpa using this)
  have hFb_0 : ∀ oo, (((w.alloc (Obj.cells #[.int .i64 b.pc, .int .i64 b.len, (.slice Ab1 b.ops.length cb1), .int .i64 b.fin, .int .i64 b.x, .int .i64 b.y, .int .i64 b.k] 25)).alloc (Obj.cells #[.int .i64 0, .int .i64 0, .slice none 0 0, .int .i64 0, .int .i64 0, .int .i64 0, .int .i64 0] 25))).frozen? ⟨w.heap.size, oo, none⟩ = false := fun oo => by simp
  have hBres_0 : Bx ((w.alloc (Obj.cells #[.int .i64 b.pc, .int .i64 b.len, (.slice Ab1 b.ops.length cb1), .int .i64 b.fin, .int .i64 b.x, .int .i64 b.y, .int .i64 b.k] 25)).alloc (Obj.cells #[.int .i64 0, .int .i64 0, .slice none 0 0, .int .i64 0, .int .i64 0, .int .i64 0, .int .i64 0] 25)) (w.heap.size + 1) [.int .i64 0, .int .i64 0, .slice none 0 0, .int .i64 0, .int .i64 0, .int .i64 0, .int .i64 0] := (by have := (Bx.new (w.alloc (Obj.cells #[.int .i64 b.pc, .int .i64 b.len, (.slice Ab1 b.ops.length cb1), .int .i64 b.fin, .int .i64 b.x, .int .i64 b.y, .int .i64 b.k] 25)) #[.int .i64 0, .int .i64 0, .slice none 0 0, .int .i64 0, .int .i64 0, .int .i64 0, .int .i64 0] 25); simpa using this)
  have hFres_0 : ∀ oo, (((w.alloc (Obj.cells #[.int .i64 b.pc, .int .i64 b.len, (.slice Ab1 b.ops.length cb1), .int .i64 b.fin, .int .i64 b.x, .int .i64 b.y, .int .i64 b.k] 25)).alloc (Obj.cells #[.int .i64 0, .int .i64 0, .slice none 0 0, .int .i64 0, .int .i64 0, .int .i64 0, .int .i64 0] 25))).frozen? ⟨w.heap.size + 1, oo, none⟩ = false := fun oo => by simp
  generalize ((w.alloc (Obj.cells #[.int .i64 b.pc, .int .i64 b.len, (.slice Ab1 b.ops.length cb1), .int .i64 b.fin, .int .i64 b.x, .int .i64 b.y, .int .i64 b.k] 25)).alloc (Obj.cells #[.int .i64 0, .int .i64 0, .slice none 0 0, .int .i64 0, .int .i64 0, .int .i64 0, .int .i64 0] 25)) = w0 at *
  have hR0 : Rdr rb base P w0 := h.ext he0
  have hT0 : Turn [rb] w w0 := Turn.of_ext he0 _
  have yb : w.heap.size < w0.heap.size := by omega
  have xb0 := hBb_0 0 _ rfl
  have xb1 := hBb_0 1 _ rfl
  have xb2 := hBb_0 2 _ rfl
  have xb3 := hBb_0 3 _ rfl
  have xb4 := hBb_0 4 _ rfl
  have xb5 := hBb_0 5 _ rfl
  have xb6 := hBb_0 6 _ rfl
  have fb := hFb_0
  go_wp2_with fail
  refine (l6Copy_any b _ _ (hb1.ext he0) (by omega)).mono ?_
  rintro e w1 ⟨r1, F1, rfl, ho1, hf1, hy⟩
  clear xb0 xb1 xb2 xb3 xb4 xb5 xb6 yb
  clear fb
  have hs1 := hy.size
  try simp at hs1
  have hR1 := (Rdr.hold hR0).ext hy
  have hT1 : Turn [rb] w w1 := (Turn.hold hT0).call hy
  have hBb_1 : Bx w1 (w.heap.size) [.int .i64 b.pc, .int .i64 b.len, (.slice Ab1 b.ops.length cb1), .int .i64 b.fin, .int .i64 b.x, .int .i64 b.y, .int .i64 b.k] := hy.bx (Bx.hold hBb_0) (by first | omega | (simp; done) | (simp; omega))
  have hFb_1 : ∀ oo, w1.frozen? ⟨w.heap.size, oo, none⟩ = false := fun oo => (hy.frozen (by first | omega | (simp; done) | (simp; omega))).trans ((fz_hold hFb_0) oo)
  have hBres_1 : Bx w1 (w.heap.size + 1) [.int .i64 0, .int .i64 0, .slice none 0 0, .int .i64 0, .int .i64 0, .int .i64 0, .int .i64 0] := hy.bx (Bx.hold hBres_0) (by first | omega | (simp; done) | (simp; omega))
  have hFres_1 : ∀ oo, w1.frozen? ⟨w.heap.size + 1, oo, none⟩ = false := fun oo => (hy.frozen (by first | omega | (simp; done) | (simp; omega))).trans ((fz_hold hFres_0) oo)
  clear hBb_0 hFb_0 hBres_0 hFres_0
  clear hy
  clear hBb_1 hFb_1
  obtain ⟨B1, d1, rfl, hd1, hm1⟩ := ho1.sl.form
  have hg1 := GlO.of_own ho1 hf1
  have hm1_ := hm1
  unfold maxLen at hm1_
  go_upto_region 2 with fail
  have hR2 := Rdr.hold (w' := (w1.alloc (.cells #[.int .i64 b.pc, .int .i64 b.len, .slice B1 b.ops.length d1, .int .i64 b.fin, .int .i64 b.x, .int .i64 b.y, .int .i64 b.k] 25))) hR1
  have hT2 : Turn [rb] w (w1.alloc (.cells #[.int .i64 b.pc, .int .i64 b.len, .slice B1 b.ops.length d1, .int .i64 b.fin, .int .i64 b.x, .int .i64 b.y, .int .i64 b.k] 25)) := Turn.hold hT1
  have hs2 : w1.heap.size + 1 ≤ ((w1.alloc (.cells #[.int .i64 b.pc, .int .i64 b.len, .slice B1 b.ops.length d1, .int .i64 b.fin, .int .i64 b.x, .int .i64 b.y, .int .i64 b.k] 25))).heap.size := by simp
  have hx2 : Ext w1 (w1.alloc (.cells #[.int .i64 b.pc, .int .i64 b.len, .slice B1 b.ops.length d1, .int .i64 b.fin, .int .i64 b.x, .int .i64 b.y, .int .i64 b.k] 25)) := Ext.auto
  have hBx_2 : Bx (w1.alloc (.cells #[.int .i64 b.pc, .int .i64 b.len, .slice B1 b.ops.length d1, .int .i64 b.fin, .int .i64 b.x, .int .i64 b.y, .int .i64 b.k] 25)) w1.heap.size [.int .i64 b.pc, .int .i64 b.len, .slice B1 b.ops.length d1, .int .i64 b.fin, .int .i64 b.x, .int .i64 b.y, .int .i64 b.k] := Bx.new w1 #[.int .i64 b.pc, .int .i64 b.len, .slice B1 b.ops.length d1, .int .i64 b.fin, .int .i64 b.x, .int .i64 b.y, .int .i64 b.k] 25
  have hFx_2 : ∀ oo, (w1.alloc (.cells #[.int .i64 b.pc, .int .i64 b.len, .slice B1 b.ops.length d1, .int .i64 b.fin, .int .i64 b.x, .int .i64 b.y, .int .i64 b.k] 25)).frozen? ⟨w1.heap.size, oo, none⟩ = false := fz_new w1 #[.int .i64 b.pc, .int .i64 b.len, .slice B1 b.ops.length d1, .int .i64 b.fin, .int .i64 b.x, .int .i64 b.y, .int .i64 b.k] 25 rfl
  have hBres_2 : Bx (w1.alloc (.cells #[.int .i64 b.pc, .int .i64 b.len, .slice B1 b.ops.length d1, .int .i64 b.fin, .int .i64 b.x, .int .i64 b.y, .int .i64 b.k] 25)) (w.heap.size + 1) [.int .i64 0, .int .i64 0, .slice none 0 0, .int .i64 0, .int .i64 0, .int .i64 0, .int .i64 0] := Bx.hold hBres_1
  have hFres_2 : ∀ oo, (w1.alloc (.cells #[.int .i64 b.pc, .int .i64 b.len, .slice B1 b.ops.length d1, .int .i64 b.fin, .int .i64 b.x, .int .i64 b.y, .int .i64 b.k] 25)).frozen? ⟨w.heap.size + 1, oo, none⟩ = false := fz_hold hFres_1
  clear hBres_1 hFres_1
  replace hg1 := GlO.turn hg1 (Turn.of_ext hx2 []) (by simp)
  generalize (w1.alloc (.cells #[.int .i64 b.pc, .int .i64 b.len, .slice B1 b.ops.length d1, .int .i64 b.fin, .int .i64 b.x, .int .i64 b.y, .int .i64 b.k] 25)) = w2 at *
  by_cases h0 : b.ops.length = 0
  · 
    have q0 : ((b.ops.length : Int) == 0) = true := by simp [h0]
    have H0 := hide h0
    clear h0
    have yx : w1.heap.size < w2.heap.size := by omega
    have xx0 := hBx_2 0 _ rfl
    have xx1 := hBx_2 1 _ rfl
    have xx2 := hBx_2 2 _ rfl
    have xx3 := hBx_2 3 _ rfl
    have xx4 := hBx_2 4 _ rfl
    have xx5 := hBx_2 5 _ rfl
    have xx6 := hBx_2 6 _ rfl
    have fx := hFx_2
    have yres : w.heap.size + 1 < w2.heap.size := by omega
    have xres0 := hBres_2 0 _ rfl
    have xres1 := hBres_2 1 _ rfl
    have xres2 := hBres_2 2 _ rfl
    have xres3 := hBres_2 3 _ rfl
    have xres4 := hBres_2 4 _ rfl
    have xres5 := hBres_2 5 _ rfl
    have xres6 := hBres_2 6 _ rfl
    have fres := hFres_2
    go_wp2
    refine bodyPost_ret (v := .agg #[.int .i64 (b.pc), .int .i64 (b.len), .slice B1 b.ops.length d1, .int .i64 (b.fin), .int .i64 (b.x), .int .i64 (b.y), .int .i64 (wrap64 (b.k + 1))]) (by simp [results, Try.results76, go_sem, xres0, xres1, xres2, xres3, xres4, xres5, xres6]) rfl ⟨⟨⟨b.pc, b.len, b.ops, b.fin, b.x, b.y, wrap64 (b.k + 1)⟩, B1, d1, rfl, ?_, ?_, ?_⟩, ?_, ?_⟩
    · exact GlO.down (lo := w0.heap.size) (Sl.empty hg1 H0.out) (by omega)
    · exact ⟨hkb.1, hkb.2.1, hkb.2.2.1, hkb.2.2.2.1, hkb.2.2.2.2.1, wrap_fits _⟩
    · exact hlen
    · exact (Rdr.hold hR2).up (by omega)
    · exact Turn.hold hT2
  · 
    have q0 : ((b.ops.length : Int) == 0) = false := beq_eq_false_iff_ne.2 (by omega)
    obtain ⟨bo, ofs, rfl, hbo, hRo1⟩ := FRow.of_own ho1 hf1 (by omega)
    have hbo2 := hRo1.lt
    have hRo := FRow.ext hRo1 hx2
    clear hRo1 ho1 hf1 hg1
    have yx : w1.heap.size < w2.heap.size := by omega
    have xx0 := hBx_2 0 _ rfl
    have xx1 := hBx_2 1 _ rfl
    have xx2 := hBx_2 2 _ rfl
    have xx3 := hBx_2 3 _ rfl
    have xx4 := hBx_2 4 _ rfl
    have xx5 := hBx_2 5 _ rfl
    have xx6 := hBx_2 6 _ rfl
    have fx := hFx_2
    go_wp2_with fail
    refine (pick_any rb base _ _ (Rdr.hold hR2) (by omega) (b.ops.length : Int) (by omega) (by omega)).mono ?_
    rintro e w3 ⟨⟨kk, rfl, lkk, qkk⟩, hR3, hy⟩
    have ukk : kk < (b.ops.length : Int) := by omega
    clear qkk
    have hs3 := hy.size
    try simp at hs3
    have hT3 : Turn [rb] w w3 := (Turn.hold hT2).trans hy
    have hBres_3 : Bx w3 (w.heap.size + 1) [.int .i64 0, .int .i64 0, .slice none 0 0, .int .i64 0, .int .i64 0, .int .i64 0, .int .i64 0] := hy.bx (Bx.hold hBres_2) (by first | omega | (simp; done) | (simp; omega)) (by simp; omega)
    have hFres_3 : ∀ oo, w3.frozen? ⟨w.heap.size + 1, oo, none⟩ = false := fun oo => (hy.frozen (by first | omega | (simp; done) | (simp; omega)) (by simp; omega)).trans ((fz_hold hFres_2) oo)
    have hBx_3 : Bx w3 (w1.heap.size) [.int .i64 b.pc, .int .i64 b.len, .slice (some ⟨bo, ofs, none⟩) b.ops.length d1, .int .i64 b.fin, .int .i64 b.x, .int .i64 b.y, .int .i64 b.k] := hy.bx (Bx.hold hBx_2) (by first | omega | (simp; done) | (simp; omega)) (by simp; omega)
    have hFx_3 : ∀ oo, w3.frozen? ⟨w1.heap.size, oo, none⟩ = false := fun oo => (hy.frozen (by first | omega | (simp; done) | (simp; omega)) (by simp; omega)).trans ((fz_hold hFx_2) oo)
    clear hBres_2 hFres_2 hBx_2 hFx_2
    clear xx0 xx1 xx2 xx3 xx4 xx5 xx6 yx
    clear fx
    replace hRo := FRow.turned (FRow.ext hRo Ext.auto) hy (by simp; omega)
    clear hy
    obtain ⟨Q, rfl⟩ := Int.eq_ofNat_of_zero_le lkk
    have hQ : Q < b.ops.length := by omega
    clear lkk ukk
    have zk0 : (0 : Int) ≤ (Q : Int) := by omega
    have zk1 : (Q : Int) < (b.ops.length : Int) := by omega
    have zk2 : IntKind.i64.wrap ((Q : Int) + 1) = (Q : Int) + 1 := by rw [IntKind.wrap_i64]; omega
    have zl1 : IntKind.i64.wrap (b.len + 1) = b.len + 1 := by rw [IntKind.wrap_i64]; omega
    go_wp2_with fail
    refine (pick_any rb base _ _ (Rdr.hold hR3) (by omega) 9 (by omega) (by omega)).mono ?_
    rintro e w4 ⟨⟨v, rfl, lv, qv⟩, hR4, hy⟩
    have uv : v < 9 := by omega
    clear qv
    have hs4 := hy.size
    try simp at hs4
    have hT4 : Turn [rb] w w4 := (Turn.hold hT3).trans hy
    have hBres_4 : Bx w4 (w.heap.size + 1) [.int .i64 0, .int .i64 0, .slice none 0 0, .int .i64 0, .int .i64 0, .int .i64 0, .int .i64 0] := hy.bx (Bx.hold hBres_3) (by first | omega | (simp; done) | (simp; omega)) (by simp; omega)
    have hFres_4 : ∀ oo, w4.frozen? ⟨w.heap.size + 1, oo, none⟩ = false := fun oo => (hy.frozen (by first | omega | (simp; done) | (simp; omega)) (by simp; omega)).trans ((fz_hold hFres_3) oo)
    have hBx_4 : Bx w4 (w1.heap.size) [.int .i64 b.pc, .int .i64 b.len, .slice (some ⟨bo, ofs, none⟩) b.ops.length d1, .int .i64 b.fin, .int .i64 b.x, .int .i64 b.y, .int .i64 b.k] := hy.bx (Bx.hold hBx_3) (by first | omega | (simp; done) | (simp; omega)) (by simp; omega)
    have hFx_4 : ∀ oo, w4.frozen? ⟨w1.heap.size, oo, none⟩ = false := fun oo => (hy.frozen (by first | omega | (simp; done) | (simp; omega)) (by simp; omega)).trans ((fz_hold hFx_3) oo)
    clear hBres_3 hFres_3 hBx_3 hFx_3
    replace hRo := FRow.turned (FRow.ext hRo Ext.auto) hy (by simp; omega)
    clear hy
    have hc : v = 0 ∨ v = 1 ∨ v = 2 ∨ v = 3 ∨ v = 4 ∨ v = 5 ∨ v = 6 ∨ v = 7 ∨ v = 8 := by omega
    clear lv uv
    rcases hc with rfl | rfl | rfl | rfl | rfl | rfl | rfl | rfl | rfl
    · 
      have yx : w1.heap.size < w4.heap.size := by omega
      have xx0 := hBx_4 0 _ rfl
      have xx1 := hBx_4 1 _ rfl
      have xx2 := hBx_4 2 _ rfl
      have xx3 := hBx_4 3 _ rfl
      have xx4 := hBx_4 4 _ rfl
      have xx5 := hBx_4 5 _ rfl
      have xx6 := hBx_4 6 _ rfl
      have fx := hFx_4
      obtain ⟨hk_e, e0, e1, e2, e3, e4⟩ := hRo.op (List.getElem?_eq_getElem hQ)
      have fg := hRo.fz
      have yg := hRo.lt
      go_upto_region 9 with fail
      have hS : ∀ w', Ext w4 w' → ∀ bb oo, bb < w4.heap.size → w'.cell? ⟨bb, oo, none⟩ = w4.cell? ⟨bb, oo, none⟩ := fun w' hx bb oo hb => hx.cell hb
      refine wp_region_plan (fun w' => Ext w4 w') 10 (.float 0 (.float 1 (.float 2 (.float 3 (.float 4 (.float 5 (.float 6 (.float 7 (.float 8 (.float 9 (.tail 10))))))))))) (by kernel_rfl) (by kernel_rfl) (Ext.refl _).drew ?_
      iterate 10 ((refine Plan.float_step (v := ?_) rfl (by rfl) (fun _ _ _ h => h) (fun w' hSw => ?_) ?_; rotate_left; · (go_simp; try with_reducible rfl)); (try simp only [Act.put, List.setIfInBounds_toArray, List.set_cons_zero, List.set_cons_succ]))
      refine Plan.tail_step ?_
      simp only [List.drop_succ_cons, List.drop_zero]
      clear hS
      clear xx0 xx1 xx2 xx3 xx4 xx5 xx6 yx
      clear fx
      go_upto_region 27 with fail
      have hRn : FRow ((w4.setCell ⟨bo, ofs + Q * 5 + 3, none⟩ (.int .i64 (wrap64 (b.ops[Q].k + 1)))).drew) bo ofs (b.ops.set Q ⟨b.ops[Q].kind, b.ops[Q].x, b.ops[Q].y, wrap64 (b.ops[Q].k + 1), b.ops[Q].at_⟩) := (hRo.setF (j := 3) (List.getElem?_eq_getElem hQ) ⟨b.ops[Q].kind, b.ops[Q].x, b.ops[Q].y, wrap64 (b.ops[Q].k + 1), b.ops[Q].at_⟩ _ (by decide) rfl ⟨hk_e.1, hk_e.2.1, hk_e.2.2.1, wrap_fits _, hk_e.2.2.2.2⟩).drew
      have hR5 := Rdr.hold (w' := (w4.setCell ⟨bo, ofs + Q * 5 + 3, none⟩ (.int .i64 (wrap64 (b.ops[Q].k + 1)))).drew) hR4
      have hT5 : Turn [rb] w ((w4.setCell ⟨bo, ofs + Q * 5 + 3, none⟩ (.int .i64 (wrap64 (b.ops[Q].k + 1)))).drew) := Turn.hold hT4
      have hs5 : w4.heap.size ≤ ((w4.setCell ⟨bo, ofs + Q * 5 + 3, none⟩ (.int .i64 (wrap64 (b.ops[Q].k + 1)))).drew).heap.size := by simp
      have hBres_5 : Bx ((w4.setCell ⟨bo, ofs + Q * 5 + 3, none⟩ (.int .i64 (wrap64 (b.ops[Q].k + 1)))).drew) (w.heap.size + 1) [.int .i64 0, .int .i64 0, .slice none 0 0, .int .i64 0, .int .i64 0, .int .i64 0, .int .i64 0] := Bx.hold hBres_4
      have hFres_5 : ∀ oo, ((w4.setCell ⟨bo, ofs + Q * 5 + 3, none⟩ (.int .i64 (wrap64 (b.ops[Q].k + 1)))).drew).frozen? ⟨w.heap.size + 1, oo, none⟩ = false := fz_hold hFres_4
      have hBx_5 : Bx ((w4.setCell ⟨bo, ofs + Q * 5 + 3, none⟩ (.int .i64 (wrap64 (b.ops[Q].k + 1)))).drew) (w1.heap.size) [.int .i64 b.pc, .int .i64 b.len, .slice (some ⟨bo, ofs, none⟩) b.ops.length d1, .int .i64 b.fin, .int .i64 b.x, .int .i64 b.y, .int .i64 b.k] := Bx.hold hBx_4
      have hFx_5 : ∀ oo, ((w4.setCell ⟨bo, ofs + Q * 5 + 3, none⟩ (.int .i64 (wrap64 (b.ops[Q].k + 1)))).drew).frozen? ⟨w1.heap.size, oo, none⟩ = false := fz_hold hFx_4
      clear fg yg hRo hBres_4 hFres_4 hBx_4 hFx_4 e0 e1 e2 e3 e4
      generalize (w4.setCell ⟨bo, ofs + Q * 5 + 3, none⟩ (.int .i64 (wrap64 (b.ops[Q].k + 1)))).drew = w5 at *
      have hRo := hRn
      clear hRn
      have yx : w1.heap.size < w5.heap.size := by omega
      have xx0 := hBx_5 0 _ rfl
      have xx1 := hBx_5 1 _ rfl
      have xx2 := hBx_5 2 _ rfl
      have xx3 := hBx_5 3 _ rfl
      have xx4 := hBx_5 4 _ rfl
      have xx5 := hBx_5 5 _ rfl
      have xx6 := hBx_5 6 _ rfl
      have fx := hFx_5
      have yres : w.heap.size + 1 < w5.heap.size := by omega
      have xres0 := hBres_5 0 _ rfl
      have xres1 := hBres_5 1 _ rfl
      have xres2 := hBres_5 2 _ rfl
      have xres3 := hBres_5 3 _ rfl
      have xres4 := hBres_5 4 _ rfl
      have xres5 := hBres_5 5 _ rfl
      have xres6 := hBres_5 6 _ rfl
      have fres := hFres_5
      go_wp2
      refine bodyPost_ret (v := .agg #[.int .i64 (b.pc), .int .i64 (b.len), .slice (some ⟨bo, ofs, none⟩) b.ops.length d1, .int .i64 (b.fin), .int .i64 (b.x), .int .i64 (b.y), .int .i64 (b.k)]) (by simp [results, Try.results76, go_sem, xres0, xres1, xres2, xres3, xres4, xres5, xres6]) rfl ⟨⟨⟨b.pc, b.len, b.ops.set Q ⟨b.ops[Q].kind, b.ops[Q].x, b.ops[Q].y, wrap64 (b.ops[Q].k + 1), b.ops[Q].at_⟩, b.fin, b.x, b.y, b.k⟩, (some ⟨bo, ofs, none⟩), d1, by simp only [List.length_set], ?_, ?_, ?_⟩, ?_, ?_⟩
      · exact GlO.down (lo := w0.heap.size) ((GlO.of_row (FRow.hold hRo) (by simp only [List.length_set]) (by simp only [List.length_set]; omega) hm1 hbo)) (by omega)
      · exact hkb
      · exact by simp only [List.length_set]; omega
      · exact (Rdr.hold hR5).up (by omega)
      · exact Turn.hold hT5
    · 
      have yx : w1.heap.size < w4.heap.size := by omega
      have xx0 := hBx_4 0 _ rfl
      have xx1 := hBx_4 1 _ rfl
      have xx2 := hBx_4 2 _ rfl
      have xx3 := hBx_4 3 _ rfl
      have xx4 := hBx_4 4 _ rfl
      have xx5 := hBx_4 5 _ rfl
      have xx6 := hBx_4 6 _ rfl
      have fx := hFx_4
      go_upto_region 11 with fail
      have hSx : ∀ w', Turn [rb] w4 w' → ∀ oo, w'.cell? ⟨w1.heap.size, oo, none⟩ = w4.cell? ⟨w1.heap.size, oo, none⟩ := fun w' hx oo => hx.cell (by omega) (by simp; omega)
      refine wp_region_plan (fun w' => Turn [rb] w4 w') 7 (.float 0 (.float 1 (.float 2 (.float 3 (.float 4 (.float 5 (.chain 6 (.tail 7)))))))) (by kernel_rfl) (by kernel_rfl) (Turn.of_ext (Ext.refl _).drew _) ?_
      iterate 6 ((refine Plan.float_step (v := ?_) rfl (by rfl) (fun _ _ _ h => h) (fun w' hSw => ?_) ?_; rotate_left; · (go_simp; try with_reducible rfl)); (try simp only [Act.put, List.setIfInBounds_toArray, List.set_cons_zero, List.set_cons_succ]))
      refine Plan.chain_step rfl (fun K hK => ?_)
      go_simp
      skip
      refine (pick_any rb base _ _ (Rdr.hold hR4) (by omega) ((Q : Int) + 1) (by omega) (by omega)).mono ?_
      rintro e w5 ⟨⟨m, rfl, lm, qm⟩, hR5, hy⟩
      have um : m < ((Q : Int) + 1) := by omega
      clear qm
      refine hK.out _ _ (Turn.pre Ext.auto hy) ?_
      clear hK
      (try simp only [Act.put, List.setIfInBounds_toArray, List.set_cons_zero, List.set_cons_succ])
      have hs5 := hy.size
      try simp at hs5
      have hT5 : Turn [rb] w w5 := (Turn.hold hT4).trans hy
      have hBres_5 : Bx w5 (w.heap.size + 1) [.int .i64 0, .int .i64 0, .slice none 0 0, .int .i64 0, .int .i64 0, .int .i64 0, .int .i64 0] := hy.bx (Bx.hold hBres_4) (by first | omega | (simp; done) | (simp; omega)) (by simp; omega)
      have hFres_5 : ∀ oo, w5.frozen? ⟨w.heap.size + 1, oo, none⟩ = false := fun oo => (hy.frozen (by first | omega | (simp; done) | (simp; omega)) (by simp; omega)).trans ((fz_hold hFres_4) oo)
      have hBx_5 : Bx w5 (w1.heap.size) [.int .i64 b.pc, .int .i64 b.len, .slice (some ⟨bo, ofs, none⟩) b.ops.length d1, .int .i64 b.fin, .int .i64 b.x, .int .i64 b.y, .int .i64 b.k] := hy.bx (Bx.hold hBx_4) (by first | omega | (simp; done) | (simp; omega)) (by simp; omega)
      have hFx_5 : ∀ oo, w5.frozen? ⟨w1.heap.size, oo, none⟩ = false := fun oo => (hy.frozen (by first | omega | (simp; done) | (simp; omega)) (by simp; omega)).trans ((fz_hold hFx_4) oo)
      clear hBres_4 hFres_4 hBx_4 hFx_4
      replace hRo := FRow.turned (FRow.ext hRo Ext.auto) hy (by simp; omega)
      clear hy
      refine Plan.tail_step ?_
      simp only [List.drop_succ_cons, List.drop_zero]
      clear hSx
      clear xx0 xx1 xx2 xx3 xx4 xx5 xx6 yx
      clear fx
      obtain ⟨hk_e, e0, e1, e2, e3, e4⟩ := hRo.op (List.getElem?_eq_getElem hQ)
      have fg := hRo.fz
      have yg := hRo.lt
      go_upto_region 27 with fail
      have hRn : FRow ((w5.setCell ⟨bo, ofs + Q * 5 + 1, none⟩ (.int .i64 m))) bo ofs (b.ops.set Q ⟨b.ops[Q].kind, m, b.ops[Q].y, b.ops[Q].k, b.ops[Q].at_⟩) := hRo.setF (j := 1) (List.getElem?_eq_getElem hQ) ⟨b.ops[Q].kind, m, b.ops[Q].y, b.ops[Q].k, b.ops[Q].at_⟩ _ (by decide) rfl ⟨hk_e.1, (show Fits m by unfold Fits; omega), hk_e.2.2.1, hk_e.2.2.2.1, hk_e.2.2.2.2⟩
      have hR6 := Rdr.hold (w' := (w5.setCell ⟨bo, ofs + Q * 5 + 1, none⟩ (.int .i64 m))) hR5
      have hT6 : Turn [rb] w ((w5.setCell ⟨bo, ofs + Q * 5 + 1, none⟩ (.int .i64 m))) := Turn.hold hT5
      have hs6 : w5.heap.size ≤ ((w5.setCell ⟨bo, ofs + Q * 5 + 1, none⟩ (.int .i64 m))).heap.size := by simp
      have hBres_6 : Bx ((w5.setCell ⟨bo, ofs + Q * 5 + 1, none⟩ (.int .i64 m))) (w.heap.size + 1) [.int .i64 0, .int .i64 0, .slice none 0 0, .int .i64 0, .int .i64 0, .int .i64 0, .int .i64 0] := Bx.hold hBres_5
      have hFres_6 : ∀ oo, ((w5.setCell ⟨bo, ofs + Q * 5 + 1, none⟩ (.int .i64 m))).frozen? ⟨w.heap.size + 1, oo, none⟩ = false := fz_hold hFres_5
      have hBx_6 : Bx ((w5.setCell ⟨bo, ofs + Q * 5 + 1, none⟩ (.int .i64 m))) (w1.heap.size) [.int .i64 b.pc, .int .i64 b.len, .slice (some ⟨bo, ofs, none⟩) b.ops.length d1, .int .i64 b.fin, .int .i64 b.x, .int .i64 b.y, .int .i64 b.k] := Bx.hold hBx_5
      have hFx_6 : ∀ oo, ((w5.setCell ⟨bo, ofs + Q * 5 + 1, none⟩ (.int .i64 m))).frozen? ⟨w1.heap.size, oo, none⟩ = false := fz_hold hFx_5
      clear fg yg hRo hBres_5 hFres_5 hBx_5 hFx_5 e0 e1 e2 e3 e4
      generalize (w5.setCell ⟨bo, ofs + Q * 5 + 1, none⟩ (.int .i64 m)) = w6 at *
      have hRo := hRn
      clear hRn
      have yx : w1.heap.size < w6.heap.size := by omega
      have xx0 := hBx_6 0 _ rfl
      have xx1 := hBx_6 1 _ rfl
      have xx2 := hBx_6 2 _ rfl
      have xx3 := hBx_6 3 _ rfl
      have xx4 := hBx_6 4 _ rfl
      have xx5 := hBx_6 5 _ rfl
      have xx6 := hBx_6 6 _ rfl
      have fx := hFx_6
      have yres : w.heap.size + 1 < w6.heap.size := by omega
      have xres0 := hBres_6 0 _ rfl
      have xres1 := hBres_6 1 _ rfl
      have xres2 := hBres_6 2 _ rfl
      have xres3 := hBres_6 3 _ rfl
      have xres4 := hBres_6 4 _ rfl
      have xres5 := hBres_6 5 _ rfl
      have xres6 := hBres_6 6 _ rfl
      have fres := hFres_6
      go_wp2
      refine bodyPost_ret (v := .agg #[.int .i64 (b.pc), .int .i64 (b.len), .slice (some ⟨bo, ofs, none⟩) b.ops.length d1, .int .i64 (b.fin), .int .i64 (b.x), .int .i64 (b.y), .int .i64 (b.k)]) (by simp [results, Try.results76, go_sem, xres0, xres1, xres2, xres3, xres4, xres5, xres6]) rfl ⟨⟨⟨b.pc, b.len, b.ops.set Q ⟨b.ops[Q].kind, m, b.ops[Q].y, b.ops[Q].k, b.ops[Q].at_⟩, b.fin, b.x, b.y, b.k⟩, (some ⟨bo, ofs, none⟩), d1, by simp only [List.length_set], ?_, ?_, ?_⟩, ?_, ?_⟩
      · exact GlO.down (lo := w0.heap.size) ((GlO.of_row (FRow.hold hRo) (by simp only [List.length_set]) (by simp only [List.length_set]; omega) hm1 hbo)) (by omega)
      · exact hkb
      · exact by simp only [List.length_set]; omega
      · exact (Rdr.hold hR6).up (by omega)
      · exact Turn.hold hT6
    · 
      have yx : w1.heap.size < w4.heap.size := by omega
      have xx0 := hBx_4 0 _ rfl
      have xx1 := hBx_4 1 _ rfl
      have xx2 := hBx_4 2 _ rfl
      have xx3 := hBx_4 3 _ rfl
      have xx4 := hBx_4 4 _ rfl
      have xx5 := hBx_4 5 _ rfl
      have xx6 := hBx_4 6 _ rfl
      have fx := hFx_4
      go_upto_region 13 with fail
      have hSx : ∀ w', Turn [rb] w4 w' → ∀ oo, w'.cell? ⟨w1.heap.size, oo, none⟩ = w4.cell? ⟨w1.heap.size, oo, none⟩ := fun w' hx oo => hx.cell (by omega) (by simp; omega)
      refine wp_region_plan (fun w' => Turn [rb] w4 w') 7 (.float 0 (.float 1 (.float 2 (.float 3 (.float 4 (.float 5 (.chain 6 (.tail 7)))))))) (by kernel_rfl) (by kernel_rfl) (Turn.of_ext (Ext.refl _).drew _) ?_
      iterate 6 ((refine Plan.float_step (v := ?_) rfl (by rfl) (fun _ _ _ h => h) (fun w' hSw => ?_) ?_; rotate_left; · (go_simp; try with_reducible rfl)); (try simp only [Act.put, List.setIfInBounds_toArray, List.set_cons_zero, List.set_cons_succ]))
      refine Plan.chain_step rfl (fun K hK => ?_)
      go_simp
      skip
      refine (pick_any rb base _ _ (Rdr.hold hR4) (by omega) ((Q : Int) + 1) (by omega) (by omega)).mono ?_
      rintro e w5 ⟨⟨m, rfl, lm, qm⟩, hR5, hy⟩
      have um : m < ((Q : Int) + 1) := by omega
      clear qm
      refine hK.out _ _ (Turn.pre Ext.auto hy) ?_
      clear hK
      (try simp only [Act.put, List.setIfInBounds_toArray, List.set_cons_zero, List.set_cons_succ])
      have hs5 := hy.size
      try simp at hs5
      have hT5 : Turn [rb] w w5 := (Turn.hold hT4).trans hy
      have hBres_5 : Bx w5 (w.heap.size + 1) [.int .i64 0, .int .i64 0, .slice none 0 0, .int .i64 0, .int .i64 0, .int .i64 0, .int .i64 0] := hy.bx (Bx.hold hBres_4) (by first | omega | (simp; done) | (simp; omega)) (by simp; omega)
      have hFres_5 : ∀ oo, w5.frozen? ⟨w.heap.size + 1, oo, none⟩ = false := fun oo => (hy.frozen (by first | omega | (simp; done) | (simp; omega)) (by simp; omega)).trans ((fz_hold hFres_4) oo)
      have hBx_5 : Bx w5 (w1.heap.size) [.int .i64 b.pc, .int .i64 b.len, .slice (some ⟨bo, ofs, none⟩) b.ops.length d1, .int .i64 b.fin, .int .i64 b.x, .int .i64 b.y, .int .i64 b.k] := hy.bx (Bx.hold hBx_4) (by first | omega | (simp; done) | (simp; omega)) (by simp; omega)
      have hFx_5 : ∀ oo, w5.frozen? ⟨w1.heap.size, oo, none⟩ = false := fun oo => (hy.frozen (by first | omega | (simp; done) | (simp; omega)) (by simp; omega)).trans ((fz_hold hFx_4) oo)
      clear hBres_4 hFres_4 hBx_4 hFx_4
      replace hRo := FRow.turned (FRow.ext hRo Ext.auto) hy (by simp; omega)
      clear hy
      refine Plan.tail_step ?_
      simp only [List.drop_succ_cons, List.drop_zero]
      clear hSx
      clear xx0 xx1 xx2 xx3 xx4 xx5 xx6 yx
      clear fx
      obtain ⟨hk_e, e0, e1, e2, e3, e4⟩ := hRo.op (List.getElem?_eq_getElem hQ)
      have fg := hRo.fz
      have yg := hRo.lt
      go_upto_region 27 with fail
      have hRn : FRow ((w5.setCell ⟨bo, ofs + Q * 5 + 2, none⟩ (.int .i64 m))) bo ofs (b.ops.set Q ⟨b.ops[Q].kind, b.ops[Q].x, m, b.ops[Q].k, b.ops[Q].at_⟩) := hRo.setF (j := 2) (List.getElem?_eq_getElem hQ) ⟨b.ops[Q].kind, b.ops[Q].x, m, b.ops[Q].k, b.ops[Q].at_⟩ _ (by decide) rfl ⟨hk_e.1, hk_e.2.1, (show Fits m by unfold Fits; omega), hk_e.2.2.2.1, hk_e.2.2.2.2⟩
      have hR6 := Rdr.hold (w' := (w5.setCell ⟨bo, ofs + Q * 5 + 2, none⟩ (.int .i64 m))) hR5
      have hT6 : Turn [rb] w ((w5.setCell ⟨bo, ofs + Q * 5 + 2, none⟩ (.int .i64 m))) := Turn.hold hT5
      have hs6 : w5.heap.size ≤ ((w5.setCell ⟨bo, ofs + Q * 5 + 2, none⟩ (.int .i64 m))).heap.size := by simp
      have hBres_6 : Bx ((w5.setCell ⟨bo, ofs + Q * 5 + 2, none⟩ (.int .i64 m))) (w.heap.size + 1) [.int .i64 0, .int .i64 0, .slice none 0 0, .int .i64 0, .int .i64 0, .int .i64 0, .int .i64 0] := Bx.hold hBres_5
      have hFres_6 : ∀ oo, ((w5.setCell ⟨bo, ofs + Q * 5 + 2, none⟩ (.int .i64 m))).frozen? ⟨w.heap.size + 1, oo, none⟩ = false := fz_hold hFres_5
      have hBx_6 : Bx ((w5.setCell ⟨bo, ofs + Q * 5 + 2, none⟩ (.int .i64 m))) (w1.heap.size) [.int .i64 b.pc, .int .i64 b.len, .slice (some ⟨bo, ofs, none⟩) b.ops.length d1, .int .i64 b.fin, .int .i64 b.x, .int .i64 b.y, .int .i64 b.k] := Bx.hold hBx_5
      have hFx_6 : ∀ oo, ((w5.setCell ⟨bo, ofs + Q * 5 + 2, none⟩ (.int .i64 m))).frozen? ⟨w1.heap.size, oo, none⟩ = false := fz_hold hFx_5
      clear fg yg hRo hBres_5 hFres_5 hBx_5 hFx_5 e0 e1 e2 e3 e4
      generalize (w5.setCell ⟨bo, ofs + Q * 5 + 2, none⟩ (.int .i64 m)) = w6 at *
      have hRo := hRn
      clear hRn
      have yx : w1.heap.size < w6.heap.size := by omega
      have xx0 := hBx_6 0 _ rfl
      have xx1 := hBx_6 1 _ rfl
      have xx2 := hBx_6 2 _ rfl
      have xx3 := hBx_6 3 _ rfl
      have xx4 := hBx_6 4 _ rfl
      have xx5 := hBx_6 5 _ rfl
      have xx6 := hBx_6 6 _ rfl
      have fx := hFx_6
      have yres : w.heap.size + 1 < w6.heap.size := by omega
      have xres0 := hBres_6 0 _ rfl
      have xres1 := hBres_6 1 _ rfl
      have xres2 := hBres_6 2 _ rfl
      have xres3 := hBres_6 3 _ rfl
      have xres4 := hBres_6 4 _ rfl
      have xres5 := hBres_6 5 _ rfl
      have xres6 := hBres_6 6 _ rfl
      have fres := hFres_6
      go_wp2
      refine bodyPost_ret (v := .agg #[.int .i64 (b.pc), .int .i64 (b.len), .slice (some ⟨bo, ofs, none⟩) b.ops.length d1, .int .i64 (b.fin), .int .i64 (b.x), .int .i64 (b.y), .int .i64 (b.k)]) (by simp [results, Try.results76, go_sem, xres0, xres1, xres2, xres3, xres4, xres5, xres6]) rfl ⟨⟨⟨b.pc, b.len, b.ops.set Q ⟨b.ops[Q].kind, b.ops[Q].x, m, b.ops[Q].k, b.ops[Q].at_⟩, b.fin, b.x, b.y, b.k⟩, (some ⟨bo, ofs, none⟩), d1, by simp only [List.length_set], ?_, ?_, ?_⟩, ?_, ?_⟩
      · exact GlO.down (lo := w0.heap.size) ((GlO.of_row (FRow.hold hRo) (by simp only [List.length_set]) (by simp only [List.length_set]; omega) hm1 hbo)) (by omega)
      · exact hkb
      · exact by simp only [List.length_set]; omega
      · exact (Rdr.hold hR6).up (by omega)
      · exact Turn.hold hT6
    · 
      have yx : w1.heap.size < w4.heap.size := by omega
      have xx0 := hBx_4 0 _ rfl
      have xx1 := hBx_4 1 _ rfl
      have xx2 := hBx_4 2 _ rfl
      have xx3 := hBx_4 3 _ rfl
      have xx4 := hBx_4 4 _ rfl
      have xx5 := hBx_4 5 _ rfl
      have xx6 := hBx_4 6 _ rfl
      have fx := hFx_4
      go_upto_region 15 with fail
      have hSx : ∀ w', Turn [rb] w4 w' → ∀ oo, w'.cell? ⟨w1.heap.size, oo, none⟩ = w4.cell? ⟨w1.heap.size, oo, none⟩ := fun w' hx oo => hx.cell (by omega) (by simp; omega)
      refine wp_region_plan (fun w' => Turn [rb] w4 w') 8 (.float 0 (.float 1 (.float 2 (.float 3 (.float 4 (.float 5 (.float 6 (.chain 7 (.tail 8))))))))) (by kernel_rfl) (by kernel_rfl) (Turn.of_ext (Ext.refl _).drew _) ?_
      iterate 7 ((refine Plan.float_step (v := ?_) rfl (by rfl) (fun _ _ _ h => h) (fun w' hSw => ?_) ?_; rotate_left; · (go_simp; try with_reducible rfl)); (try simp only [Act.put, List.setIfInBounds_toArray, List.set_cons_zero, List.set_cons_succ]))
      refine Plan.chain_step rfl (fun K hK => ?_)
      go_simp
      skip
      refine (pick_any rb base _ _ (Rdr.hold hR4) (by omega) (b.len + 1) (by omega) (by omega)).mono ?_
      rintro e w5 ⟨⟨m, rfl, lm, qm⟩, hR5, hy⟩
      have um : m < (b.len + 1) := by omega
      clear qm
      refine hK.out _ _ (Turn.pre Ext.auto hy) ?_
      clear hK
      (try simp only [Act.put, List.setIfInBounds_toArray, List.set_cons_zero, List.set_cons_succ])
      have hs5 := hy.size
      try simp at hs5
      have hT5 : Turn [rb] w w5 := (Turn.hold hT4).trans hy
      have hBres_5 : Bx w5 (w.heap.size + 1) [.int .i64 0, .int .i64 0, .slice none 0 0, .int .i64 0, .int .i64 0, .int .i64 0, .int .i64 0] := hy.bx (Bx.hold hBres_4) (by first | omega | (simp; done) | (simp; omega)) (by simp; omega)
      have hFres_5 : ∀ oo, w5.frozen? ⟨w.heap.size + 1, oo, none⟩ = false := fun oo => (hy.frozen (by first | omega | (simp; done) | (simp; omega)) (by simp; omega)).trans ((fz_hold hFres_4) oo)
      have hBx_5 : Bx w5 (w1.heap.size) [.int .i64 b.pc, .int .i64 b.len, .slice (some ⟨bo, ofs, none⟩) b.ops.length d1, .int .i64 b.fin, .int .i64 b.x, .int .i64 b.y, .int .i64 b.k] := hy.bx (Bx.hold hBx_4) (by first | omega | (simp; done) | (simp; omega)) (by simp; omega)
      have hFx_5 : ∀ oo, w5.frozen? ⟨w1.heap.size, oo, none⟩ = false := fun oo => (hy.frozen (by first | omega | (simp; done) | (simp; omega)) (by simp; omega)).trans ((fz_hold hFx_4) oo)
      clear hBres_4 hFres_4 hBx_4 hFx_4
      replace hRo := FRow.turned (FRow.ext hRo Ext.auto) hy (by simp; omega)
      clear hy
      refine Plan.tail_step ?_
      simp only [List.drop_succ_cons, List.drop_zero]
      clear hSx
      clear xx0 xx1 xx2 xx3 xx4 xx5 xx6 yx
      clear fx
      obtain ⟨hk_e, e0, e1, e2, e3, e4⟩ := hRo.op (List.getElem?_eq_getElem hQ)
      have fg := hRo.fz
      have yg := hRo.lt
      go_upto_region 27 with fail
      have hRn : FRow ((w5.setCell ⟨bo, ofs + Q * 5 + 4, none⟩ (.int .i64 m))) bo ofs (b.ops.set Q ⟨b.ops[Q].kind, b.ops[Q].x, b.ops[Q].y, b.ops[Q].k, m⟩) := hRo.setF (j := 4) (List.getElem?_eq_getElem hQ) ⟨b.ops[Q].kind, b.ops[Q].x, b.ops[Q].y, b.ops[Q].k, m⟩ _ (by decide) rfl ⟨hk_e.1, hk_e.2.1, hk_e.2.2.1, hk_e.2.2.2.1, (show Fits m by unfold Fits; omega)⟩
      have hR6 := Rdr.hold (w' := (w5.setCell ⟨bo, ofs + Q * 5 + 4, none⟩ (.int .i64 m))) hR5
      have hT6 : Turn [rb] w ((w5.setCell ⟨bo, ofs + Q * 5 + 4, none⟩ (.int .i64 m))) := Turn.hold hT5
      have hs6 : w5.heap.size ≤ ((w5.setCell ⟨bo, ofs + Q * 5 + 4, none⟩ (.int .i64 m))).heap.size := by simp
      have hBres_6 : Bx ((w5.setCell ⟨bo, ofs + Q * 5 + 4, none⟩ (.int .i64 m))) (w.heap.size + 1) [.int .i64 0, .int .i64 0, .slice none 0 0, .int .i64 0, .int .i64 0, .int .i64 0, .int .i64 0] := Bx.hold hBres_5
      have hFres_6 : ∀ oo, ((w5.setCell ⟨bo, ofs + Q * 5 + 4, none⟩ (.int .i64 m))).frozen? ⟨w.heap.size + 1, oo, none⟩ = false := fz_hold hFres_5
      have hBx_6 : Bx ((w5.setCell ⟨bo, ofs + Q * 5 + 4, none⟩ (.int .i64 m))) (w1.heap.size) [.int .i64 b.pc, .int .i64 b.len, .slice (some ⟨bo, ofs, none⟩) b.ops.length d1, .int .i64 b.fin, .int .i64 b.x, .int .i64 b.y, .int .i64 b.k] := Bx.hold hBx_5
      have hFx_6 : ∀ oo, ((w5.setCell ⟨bo, ofs + Q * 5 + 4, none⟩ (.int .i64 m))).frozen? ⟨w1.heap.size, oo, none⟩ = false := fz_hold hFx_5
      clear fg yg hRo hBres_5 hFres_5 hBx_5 hFx_5 e0 e1 e2 e3 e4
      generalize (w5.setCell ⟨bo, ofs + Q * 5 + 4, none⟩ (.int .i64 m)) = w6 at *
      have hRo := hRn
      clear hRn
      have yx : w1.heap.size < w6.heap.size := by omega
      have xx0 := hBx_6 0 _ rfl
      have xx1 := hBx_6 1 _ rfl
      have xx2 := hBx_6 2 _ rfl
      have xx3 := hBx_6 3 _ rfl
      have xx4 := hBx_6 4 _ rfl
      have xx5 := hBx_6 5 _ rfl
      have xx6 := hBx_6 6 _ rfl
      have fx := hFx_6
      have yres : w.heap.size + 1 < w6.heap.size := by omega
      have xres0 := hBres_6 0 _ rfl
      have xres1 := hBres_6 1 _ rfl
      have xres2 := hBres_6 2 _ rfl
      have xres3 := hBres_6 3 _ rfl
      have xres4 := hBres_6 4 _ rfl
      have xres5 := hBres_6 5 _ rfl
      have xres6 := hBres_6 6 _ rfl
      have fres := hFres_6
      go_wp2
      refine bodyPost_ret (v := .agg #[.int .i64 (b.pc), .int .i64 (b.len), .slice (some ⟨bo, ofs, none⟩) b.ops.length d1, .int .i64 (b.fin), .int .i64 (b.x), .int .i64 (b.y), .int .i64 (b.k)]) (by simp [results, Try.results76, go_sem, xres0, xres1, xres2, xres3, xres4, xres5, xres6]) rfl ⟨⟨⟨b.pc, b.len, b.ops.set Q ⟨b.ops[Q].kind, b.ops[Q].x, b.ops[Q].y, b.ops[Q].k, m⟩, b.fin, b.x, b.y, b.k⟩, (some ⟨bo, ofs, none⟩), d1, by simp only [List.length_set], ?_, ?_, ?_⟩, ?_, ?_⟩
      · exact GlO.down (lo := w0.heap.size) ((GlO.of_row (FRow.hold hRo) (by simp only [List.length_set]) (by simp only [List.length_set]; omega) hm1 hbo)) (by omega)
      · exact hkb
      · exact by simp only [List.length_set]; omega
      · exact (Rdr.hold hR6).up (by omega)
      · exact Turn.hold hT6
    · 
      go_wp2_with fail
      refine (pick_any rb base _ _ (Rdr.hold hR4) (by omega) 66 (by omega) (by omega)).mono ?_
      rintro e w5 ⟨⟨m, rfl, lm, qm⟩, hR5, hy⟩
      have um : m < 66 := by omega
      clear qm
      have hs5 := hy.size
      try simp at hs5
      have hT5 : Turn [rb] w w5 := (Turn.hold hT4).trans hy
      have hBres_5 : Bx w5 (w.heap.size + 1) [.int .i64 0, .int .i64 0, .slice none 0 0, .int .i64 0, .int .i64 0, .int .i64 0, .int .i64 0] := hy.bx (Bx.hold hBres_4) (by first | omega | (simp; done) | (simp; omega)) (by simp; omega)
      have hFres_5 : ∀ oo, w5.frozen? ⟨w.heap.size + 1, oo, none⟩ = false := fun oo => (hy.frozen (by first | omega | (simp; done) | (simp; omega)) (by simp; omega)).trans ((fz_hold hFres_4) oo)
      have hBx_5 : Bx w5 (w1.heap.size) [.int .i64 b.pc, .int .i64 b.len, .slice (some ⟨bo, ofs, none⟩) b.ops.length d1, .int .i64 b.fin, .int .i64 b.x, .int .i64 b.y, .int .i64 b.k] := hy.bx (Bx.hold hBx_4) (by first | omega | (simp; done) | (simp; omega)) (by simp; omega)
      have hFx_5 : ∀ oo, w5.frozen? ⟨w1.heap.size, oo, none⟩ = false := fun oo => (hy.frozen (by first | omega | (simp; done) | (simp; omega)) (by simp; omega)).trans ((fz_hold hFx_4) oo)
      clear hBres_4 hFres_4 hBx_4 hFx_4
      replace hRo := FRow.turned (FRow.ext hRo Ext.auto) hy (by simp; omega)
      clear hy
      have yx : w1.heap.size < w5.heap.size := by omega
      have xx0 := hBx_5 0 _ rfl
      have xx1 := hBx_5 1 _ rfl
      have xx2 := hBx_5 2 _ rfl
      have xx3 := hBx_5 3 _ rfl
      have xx4 := hBx_5 4 _ rfl
      have xx5 := hBx_5 5 _ rfl
      have xx6 := hBx_5 6 _ rfl
      have fx := hFx_5
      have yres : w.heap.size + 1 < w5.heap.size := by omega
      have xres0 := hBres_5 0 _ rfl
      have xres1 := hBres_5 1 _ rfl
      have xres2 := hBres_5 2 _ rfl
      have xres3 := hBres_5 3 _ rfl
      have xres4 := hBres_5 4 _ rfl
      have xres5 := hBres_5 5 _ rfl
      have xres6 := hBres_5 6 _ rfl
      have fres := hFres_5
      go_wp2
      refine bodyPost_ret (v := .agg #[.int .i64 (b.pc), .int .i64 (b.len), .slice (some ⟨bo, ofs, none⟩) b.ops.length d1, .int .i64 (b.fin), .int .i64 (b.x), .int .i64 (b.y), .int .i64 (m)]) (by simp [results, Try.results76, go_sem, xres0, xres1, xres2, xres3, xres4, xres5, xres6]) rfl ⟨⟨⟨b.pc, b.len, b.ops, b.fin, b.x, b.y, m⟩, (some ⟨bo, ofs, none⟩), d1, rfl, ?_, ?_, ?_⟩, ?_, ?_⟩
      · exact GlO.down (lo := w0.heap.size) ((GlO.of_row (FRow.hold hRo) rfl (by omega) hm1 hbo)) (by omega)
      · exact ⟨hkb.1, hkb.2.1, hkb.2.2.1, hkb.2.2.2.1, hkb.2.2.2.2.1, (show Fits (m) by unfold Fits; omega)⟩
      · exact hlen
      · exact (Rdr.hold hR5).up (by omega)
      · exact Turn.hold hT5
    · 
      go_wp2_with fail
      refine (pick_any rb base _ _ (Rdr.hold hR4) (by omega) 4 (by omega) (by omega)).mono ?_
      rintro e w5 ⟨⟨m, rfl, lm, qm⟩, hR5, hy⟩
      have um : m < 4 := by omega
      clear qm
      have hs5 := hy.size
      try simp at hs5
      have hT5 : Turn [rb] w w5 := (Turn.hold hT4).trans hy
      have hBres_5 : Bx w5 (w.heap.size + 1) [.int .i64 0, .int .i64 0, .slice none 0 0, .int .i64 0, .int .i64 0, .int .i64 0, .int .i64 0] := hy.bx (Bx.hold hBres_4) (by first | omega | (simp; done) | (simp; omega)) (by simp; omega)
      have hFres_5 : ∀ oo, w5.frozen? ⟨w.heap.size + 1, oo, none⟩ = false := fun oo => (hy.frozen (by first | omega | (simp; done) | (simp; omega)) (by simp; omega)).trans ((fz_hold hFres_4) oo)
      have hBx_5 : Bx w5 (w1.heap.size) [.int .i64 b.pc, .int .i64 b.len, .slice (some ⟨bo, ofs, none⟩) b.ops.length d1, .int .i64 b.fin, .int .i64 b.x, .int .i64 b.y, .int .i64 b.k] := hy.bx (Bx.hold hBx_4) (by first | omega | (simp; done) | (simp; omega)) (by simp; omega)
      have hFx_5 : ∀ oo, w5.frozen? ⟨w1.heap.size, oo, none⟩ = false := fun oo => (hy.frozen (by first | omega | (simp; done) | (simp; omega)) (by simp; omega)).trans ((fz_hold hFx_4) oo)
      clear hBres_4 hFres_4 hBx_4 hFx_4
      replace hRo := FRow.turned (FRow.ext hRo Ext.auto) hy (by simp; omega)
      clear hy
      have zw5 : IntKind.i64.wrap (1 + m) = 1 + m := by rw [IntKind.wrap_i64]; omega
      have yx : w1.heap.size < w5.heap.size := by omega
      have xx0 := hBx_5 0 _ rfl
      have xx1 := hBx_5 1 _ rfl
      have xx2 := hBx_5 2 _ rfl
      have xx3 := hBx_5 3 _ rfl
      have xx4 := hBx_5 4 _ rfl
      have xx5 := hBx_5 5 _ rfl
      have xx6 := hBx_5 6 _ rfl
      have fx := hFx_5
      have yres : w.heap.size + 1 < w5.heap.size := by omega
      have xres0 := hBres_5 0 _ rfl
      have xres1 := hBres_5 1 _ rfl
      have xres2 := hBres_5 2 _ rfl
      have xres3 := hBres_5 3 _ rfl
      have xres4 := hBres_5 4 _ rfl
      have xres5 := hBres_5 5 _ rfl
      have xres6 := hBres_5 6 _ rfl
      have fres := hFres_5
      go_wp2
      refine bodyPost_ret (v := .agg #[.int .i64 (b.pc), .int .i64 (b.len), .slice (some ⟨bo, ofs, none⟩) b.ops.length d1, .int .i64 (1 + m), .int .i64 (b.x), .int .i64 (b.y), .int .i64 (b.k)]) (by simp [results, Try.results76, go_sem, xres0, xres1, xres2, xres3, xres4, xres5, xres6]) rfl ⟨⟨⟨b.pc, b.len, b.ops, 1 + m, b.x, b.y, b.k⟩, (some ⟨bo, ofs, none⟩), d1, rfl, ?_, ?_, ?_⟩, ?_, ?_⟩
      · exact GlO.down (lo := w0.heap.size) ((GlO.of_row (FRow.hold hRo) rfl (by omega) hm1 hbo)) (by omega)
      · exact ⟨hkb.1, hkb.2.1, (show Fits (1 + m) by unfold Fits; omega), hkb.2.2.2.1, hkb.2.2.2.2.1, hkb.2.2.2.2.2⟩
      · exact hlen
      · exact (Rdr.hold hR5).up (by omega)
      · exact Turn.hold hT5
    · 
      by_cases hk0 : Q = 0
      · 
        have q6 : decide ((0 : Int) < (Q : Int)) = false := decide_eq_false (by omega)
        have q7 : decide (0 < Q) = false := decide_eq_false (by omega)
        clear hk0
        have yx : w1.heap.size < w4.heap.size := by omega
        have xx0 := hBx_4 0 _ rfl
        have xx1 := hBx_4 1 _ rfl
        have xx2 := hBx_4 2 _ rfl
        have xx3 := hBx_4 3 _ rfl
        have xx4 := hBx_4 4 _ rfl
        have xx5 := hBx_4 5 _ rfl
        have xx6 := hBx_4 6 _ rfl
        have fx := hFx_4
        have yres : w.heap.size + 1 < w4.heap.size := by omega
        have xres0 := hBres_4 0 _ rfl
        have xres1 := hBres_4 1 _ rfl
        have xres2 := hBres_4 2 _ rfl
        have xres3 := hBres_4 3 _ rfl
        have xres4 := hBres_4 4 _ rfl
        have xres5 := hBres_4 5 _ rfl
        have xres6 := hBres_4 6 _ rfl
        have fres := hFres_4
        go_wp2
        refine bodyPost_ret (v := .agg #[.int .i64 (b.pc), .int .i64 (b.len), .slice (some ⟨bo, ofs, none⟩) b.ops.length d1, .int .i64 (b.fin), .int .i64 (b.x), .int .i64 (b.y), .int .i64 (b.k)]) (by simp [results, Try.results76, go_sem, xres0, xres1, xres2, xres3, xres4, xres5, xres6]) rfl ⟨⟨⟨b.pc, b.len, b.ops, b.fin, b.x, b.y, b.k⟩, (some ⟨bo, ofs, none⟩), d1, rfl, ?_, ?_, ?_⟩, ?_, ?_⟩
        · exact GlO.down (lo := w0.heap.size) ((GlO.of_row (FRow.hold hRo) (by simp only [List.length_set]) (by simp only [List.length_set]; omega) hm1 hbo)) (by omega)
        · exact hkb
        · exact by simp only [List.length_set]; omega
        · exact (Rdr.hold hR4).up (by omega)
        · exact Turn.hold hT4
      · 
        obtain ⟨J, rfl⟩ : ∃ J, Q = J + 1 := ⟨Q - 1, by omega⟩
        have q6 : decide ((0 : Int) < ((J + 1 : Nat) : Int)) = true := decide_eq_true (by omega)
        have hJ : J < b.ops.length := by omega
        have zj0 : (0 : Int) ≤ (J : Int) := by omega
        have zj1 : (J : Int) < (b.ops.length : Int) := by omega
        have zj : IntKind.i64.wrap (J : Int) = (J : Int) := by rw [IntKind.wrap_i64]; omega
        clear hk0
        have yx : w1.heap.size < w4.heap.size := by omega
        have xx0 := hBx_4 0 _ rfl
        have xx1 := hBx_4 1 _ rfl
        have xx2 := hBx_4 2 _ rfl
        have xx3 := hBx_4 3 _ rfl
        have xx4 := hBx_4 4 _ rfl
        have xx5 := hBx_4 5 _ rfl
        have xx6 := hBx_4 6 _ rfl
        have fx := hFx_4
        obtain ⟨hk_e, e0, e1, e2, e3, e4⟩ := hRo.op (List.getElem?_eq_getElem hQ)
        have fg := hRo.fz
        have yg := hRo.lt
        go_upto_region 23 with fail
        clear xx0 xx1 xx2 xx3 xx4 xx5 xx6 yx
        clear fx
        have hR5 := Rdr.hold (w' := (w4.alloc (.cells #[.int .i64 (b.ops[J + 1].kind), .int .i64 (b.ops[J + 1].x), .int .i64 (b.ops[J + 1].y), .int .i64 (b.ops[J + 1].k), .int .i64 (b.ops[J + 1].at_)] 58))) hR4
        have hT5 : Turn [rb] w (w4.alloc (.cells #[.int .i64 (b.ops[J + 1].kind), .int .i64 (b.ops[J + 1].x), .int .i64 (b.ops[J + 1].y), .int .i64 (b.ops[J + 1].k), .int .i64 (b.ops[J + 1].at_)] 58)) := Turn.hold hT4
        have hs5 : w4.heap.size + 1 ≤ ((w4.alloc (.cells #[.int .i64 (b.ops[J + 1].kind), .int .i64 (b.ops[J + 1].x), .int .i64 (b.ops[J + 1].y), .int .i64 (b.ops[J + 1].k), .int .i64 (b.ops[J + 1].at_)] 58))).heap.size := by simp
        have hx5 : Ext w4 (w4.alloc (.cells #[.int .i64 (b.ops[J + 1].kind), .int .i64 (b.ops[J + 1].x), .int .i64 (b.ops[J + 1].y), .int .i64 (b.ops[J + 1].k), .int .i64 (b.ops[J + 1].at_)] 58)) := Ext.auto
        have hBo_5 : Bx (w4.alloc (.cells #[.int .i64 (b.ops[J + 1].kind), .int .i64 (b.ops[J + 1].x), .int .i64 (b.ops[J + 1].y), .int .i64 (b.ops[J + 1].k), .int .i64 (b.ops[J + 1].at_)] 58)) w4.heap.size [.int .i64 (b.ops[J + 1].kind), .int .i64 (b.ops[J + 1].x), .int .i64 (b.ops[J + 1].y), .int .i64 (b.ops[J + 1].k), .int .i64 (b.ops[J + 1].at_)] := Bx.new w4 #[.int .i64 (b.ops[J + 1].kind), .int .i64 (b.ops[J + 1].x), .int .i64 (b.ops[J + 1].y), .int .i64 (b.ops[J + 1].k), .int .i64 (b.ops[J + 1].at_)] 58
        have hFo_5 : ∀ oo, (w4.alloc (.cells #[.int .i64 (b.ops[J + 1].kind), .int .i64 (b.ops[J + 1].x), .int .i64 (b.ops[J + 1].y), .int .i64 (b.ops[J + 1].k), .int .i64 (b.ops[J + 1].at_)] 58)).frozen? ⟨w4.heap.size, oo, none⟩ = false := fz_new w4 #[.int .i64 (b.ops[J + 1].kind), .int .i64 (b.ops[J + 1].x), .int .i64 (b.ops[J + 1].y), .int .i64 (b.ops[J + 1].k), .int .i64 (b.ops[J + 1].at_)] 58 rfl
        have hBres_5 : Bx (w4.alloc (.cells #[.int .i64 (b.ops[J + 1].kind), .int .i64 (b.ops[J + 1].x), .int .i64 (b.ops[J + 1].y), .int .i64 (b.ops[J + 1].k), .int .i64 (b.ops[J + 1].at_)] 58)) (w.heap.size + 1) [.int .i64 0, .int .i64 0, .slice none 0 0, .int .i64 0, .int .i64 0, .int .i64 0, .int .i64 0] := Bx.hold hBres_4
        have hFres_5 : ∀ oo, (w4.alloc (.cells #[.int .i64 (b.ops[J + 1].kind), .int .i64 (b.ops[J + 1].x), .int .i64 (b.ops[J + 1].y), .int .i64 (b.ops[J + 1].k), .int .i64 (b.ops[J + 1].at_)] 58)).frozen? ⟨w.heap.size + 1, oo, none⟩ = false := fz_hold hFres_4
        have hBx_5 : Bx (w4.alloc (.cells #[.int .i64 (b.ops[J + 1].kind), .int .i64 (b.ops[J + 1].x), .int .i64 (b.ops[J + 1].y), .int .i64 (b.ops[J + 1].k), .int .i64 (b.ops[J + 1].at_)] 58)) (w1.heap.size) [.int .i64 b.pc, .int .i64 b.len, .slice (some ⟨bo, ofs, none⟩) b.ops.length d1, .int .i64 b.fin, .int .i64 b.x, .int .i64 b.y, .int .i64 b.k] := Bx.hold hBx_4
        have hFx_5 : ∀ oo, (w4.alloc (.cells #[.int .i64 (b.ops[J + 1].kind), .int .i64 (b.ops[J + 1].x), .int .i64 (b.ops[J + 1].y), .int .i64 (b.ops[J + 1].k), .int .i64 (b.ops[J + 1].at_)] 58)).frozen? ⟨w1.heap.size, oo, none⟩ = false := fz_hold hFx_4
        clear hBres_4 hFres_4 hBx_4 hFx_4
        replace hRo := FRow.ext hRo hx5
        generalize (w4.alloc (.cells #[.int .i64 (b.ops[J + 1].kind), .int .i64 (b.ops[J + 1].x), .int .i64 (b.ops[J + 1].y), .int .i64 (b.ops[J + 1].k), .int .i64 (b.ops[J + 1].at_)] 58)) = w5 at *
        clear e0 e1 e2 e3 e4 fg yg
        have yx : w1.heap.size < w5.heap.size := by omega
        have xx0 := hBx_5 0 _ rfl
        have xx1 := hBx_5 1 _ rfl
        have xx2 := hBx_5 2 _ rfl
        have xx3 := hBx_5 3 _ rfl
        have xx4 := hBx_5 4 _ rfl
        have xx5 := hBx_5 5 _ rfl
        have xx6 := hBx_5 6 _ rfl
        have fx := hFx_5
        obtain ⟨hk_u, u0, u1, u2, u3, u4⟩ := hRo.op (List.getElem?_eq_getElem hJ)
        have fg := hRo.fz
        have yg := hRo.lt
        have hS : ∀ w', Ext w5 w' → ∀ bb oo, bb < w5.heap.size → w'.cell? ⟨bb, oo, none⟩ = w5.cell? ⟨bb, oo, none⟩ := fun w' hx bb oo hb => hx.cell hb
        refine wp_region_plan (fun w' => Ext w5 w') 9 (.float 0 (.float 1 (.float 2 (.float 3 (.float 4 (.float 5 (.float 6 (.float 7 (.float 8 (.tail 9)))))))))) (by kernel_rfl) (by kernel_rfl) (Ext.refl _).drew ?_
        iterate 9 ((refine Plan.float_step (v := ?_) rfl (by rfl) (fun _ _ _ h => h) (fun w' hSw => ?_) ?_; rotate_left; · (go_simp; try with_reducible rfl)); (try simp only [Act.put, List.setIfInBounds_toArray, List.set_cons_zero, List.set_cons_succ]))
        refine Plan.tail_step ?_
        simp only [List.drop_succ_cons, List.drop_zero]
        clear hS
        clear xx0 xx1 xx2 xx3 xx4 xx5 xx6 yx
        clear fx
        obtain ⟨-, e0, e1, e2, e3, e4⟩ := hRo.op (List.getElem?_eq_getElem hQ)
        go_upto_region 24 with fail
        have hRn : FRow ((((((w5.setCell ⟨bo, ofs + (J + 1) * 5, none⟩ (.int .i64 b.ops[J].kind)).setCell ⟨bo, ofs + (J + 1) * 5 + 1, none⟩ (.int .i64 b.ops[J].x)).setCell ⟨bo, ofs + (J + 1) * 5 + 2, none⟩ (.int .i64 b.ops[J].y)).setCell ⟨bo, ofs + (J + 1) * 5 + 3, none⟩ (.int .i64 b.ops[J].k)).setCell ⟨bo, ofs + (J + 1) * 5 + 4, none⟩ (.int .i64 b.ops[J].at_)).drew) bo ofs (b.ops.set (J + 1) b.ops[J]) := (hRo.setOp (List.getElem?_eq_getElem hQ) b.ops[J] hk_u).drew
        have hR6 := Rdr.hold (w' := (((((w5.setCell ⟨bo, ofs + (J + 1) * 5, none⟩ (.int .i64 b.ops[J].kind)).setCell ⟨bo, ofs + (J + 1) * 5 + 1, none⟩ (.int .i64 b.ops[J].x)).setCell ⟨bo, ofs + (J + 1) * 5 + 2, none⟩ (.int .i64 b.ops[J].y)).setCell ⟨bo, ofs + (J + 1) * 5 + 3, none⟩ (.int .i64 b.ops[J].k)).setCell ⟨bo, ofs + (J + 1) * 5 + 4, none⟩ (.int .i64 b.ops[J].at_)).drew) hR5
        have hT6 : Turn [rb] w ((((((w5.setCell ⟨bo, ofs + (J + 1) * 5, none⟩ (.int .i64 b.ops[J].kind)).setCell ⟨bo, ofs + (J + 1) * 5 + 1, none⟩ (.int .i64 b.ops[J].x)).setCell ⟨bo, ofs + (J + 1) * 5 + 2, none⟩ (.int .i64 b.ops[J].y)).setCell ⟨bo, ofs + (J + 1) * 5 + 3, none⟩ (.int .i64 b.ops[J].k)).setCell ⟨bo, ofs + (J + 1) * 5 + 4, none⟩ (.int .i64 b.ops[J].at_)).drew) := Turn.hold hT5
        have hs6 : w5.heap.size ≤ ((((((w5.setCell ⟨bo, ofs + (J + 1) * 5, none⟩ (.int .i64 b.ops[J].kind)).setCell ⟨bo, ofs + (J + 1) * 5 + 1, none⟩ (.int .i64 b.ops[J].x)).setCell ⟨bo, ofs + (J + 1) * 5 + 2, none⟩ (.int .i64 b.ops[J].y)).setCell ⟨bo, ofs + (J + 1) * 5 + 3, none⟩ (.int .i64 b.ops[J].k)).setCell ⟨bo, ofs + (J + 1) * 5 + 4, none⟩ (.int .i64 b.ops[J].at_)).drew).heap.size := by simp
        have hBres_6 : Bx ((((((w5.setCell ⟨bo, ofs + (J + 1) * 5, none⟩ (.int .i64 b.ops[J].kind)).setCell ⟨bo, ofs + (J + 1) * 5 + 1, none⟩ (.int .i64 b.ops[J].x)).setCell ⟨bo, ofs + (J + 1) * 5 + 2, none⟩ (.int .i64 b.ops[J].y)).setCell ⟨bo, ofs + (J + 1) * 5 + 3, none⟩ (.int .i64 b.ops[J].k)).setCell ⟨bo, ofs + (J + 1) * 5 + 4, none⟩ (.int .i64 b.ops[J].at_)).drew) (w.heap.size + 1) [.int .i64 0, .int .i64 0, .slice none 0 0, .int .i64 0, .int .i64 0, .int .i64 0, .int .i64 0] := Bx.hold hBres_5
        have hFres_6 : ∀ oo, ((((((w5.setCell ⟨bo, ofs + (J + 1) * 5, none⟩ (.int .i64 b.ops[J].kind)).setCell ⟨bo, ofs + (J + 1) * 5 + 1, none⟩ (.int .i64 b.ops[J].x)).setCell ⟨bo, ofs + (J + 1) * 5 + 2, none⟩ (.int .i64 b.ops[J].y)).setCell ⟨bo, ofs + (J + 1) * 5 + 3, none⟩ (.int .i64 b.ops[J].k)).setCell ⟨bo, ofs + (J + 1) * 5 + 4, none⟩ (.int .i64 b.ops[J].at_)).drew).frozen? ⟨w.heap.size + 1, oo, none⟩ = false := fz_hold hFres_5
        have hBx_6 : Bx ((((((w5.setCell ⟨bo, ofs + (J + 1) * 5, none⟩ (.int .i64 b.ops[J].kind)).setCell ⟨bo, ofs + (J + 1) * 5 + 1, none⟩ (.int .i64 b.ops[J].x)).setCell ⟨bo, ofs + (J + 1) * 5 + 2, none⟩ (.int .i64 b.ops[J].y)).setCell ⟨bo, ofs + (J + 1) * 5 + 3, none⟩ (.int .i64 b.ops[J].k)).setCell ⟨bo, ofs + (J + 1) * 5 + 4, none⟩ (.int .i64 b.ops[J].at_)).drew) (w1.heap.size) [.int .i64 b.pc, .int .i64 b.len, .slice (some ⟨bo, ofs, none⟩) b.ops.length d1, .int .i64 b.fin, .int .i64 b.x, .int .i64 b.y, .int .i64 b.k] := Bx.hold hBx_5
        have hFx_6 : ∀ oo, ((((((w5.setCell ⟨bo, ofs + (J + 1) * 5, none⟩ (.int .i64 b.ops[J].kind)).setCell ⟨bo, ofs + (J + 1) * 5 + 1, none⟩ (.int .i64 b.ops[J].x)).setCell ⟨bo, ofs + (J + 1) * 5 + 2, none⟩ (.int .i64 b.ops[J].y)).setCell ⟨bo, ofs + (J + 1) * 5 + 3, none⟩ (.int .i64 b.ops[J].k)).setCell ⟨bo, ofs + (J + 1) * 5 + 4, none⟩ (.int .i64 b.ops[J].at_)).drew).frozen? ⟨w1.heap.size, oo, none⟩ = false := fz_hold hFx_5
        have hBo_6 : Bx ((((((w5.setCell ⟨bo, ofs + (J + 1) * 5, none⟩ (.int .i64 b.ops[J].kind)).setCell ⟨bo, ofs + (J + 1) * 5 + 1, none⟩ (.int .i64 b.ops[J].x)).setCell ⟨bo, ofs + (J + 1) * 5 + 2, none⟩ (.int .i64 b.ops[J].y)).setCell ⟨bo, ofs + (J + 1) * 5 + 3, none⟩ (.int .i64 b.ops[J].k)).setCell ⟨bo, ofs + (J + 1) * 5 + 4, none⟩ (.int .i64 b.ops[J].at_)).drew) (w4.heap.size) [.int .i64 (b.ops[J + 1].kind), .int .i64 (b.ops[J + 1].x), .int .i64 (b.ops[J + 1].y), .int .i64 (b.ops[J + 1].k), .int .i64 (b.ops[J + 1].at_)] := Bx.hold hBo_5
        have hFo_6 : ∀ oo, ((((((w5.setCell ⟨bo, ofs + (J + 1) * 5, none⟩ (.int .i64 b.ops[J].kind)).setCell ⟨bo, ofs + (J + 1) * 5 + 1, none⟩ (.int .i64 b.ops[J].x)).setCell ⟨bo, ofs + (J + 1) * 5 + 2, none⟩ (.int .i64 b.ops[J].y)).setCell ⟨bo, ofs + (J + 1) * 5 + 3, none⟩ (.int .i64 b.ops[J].k)).setCell ⟨bo, ofs + (J + 1) * 5 + 4, none⟩ (.int .i64 b.ops[J].at_)).drew).frozen? ⟨w4.heap.size, oo, none⟩ = false := fz_hold hFo_5
        clear fg yg hRo hBres_5 hFres_5 hBx_5 hFx_5 hBo_5 hFo_5 e0 e1 e2 e3 e4 u0 u1 u2 u3 u4
        generalize (((((w5.setCell ⟨bo, ofs + (J + 1) * 5, none⟩ (.int .i64 b.ops[J].kind)).setCell ⟨bo, ofs + (J + 1) * 5 + 1, none⟩ (.int .i64 b.ops[J].x)).setCell ⟨bo, ofs + (J + 1) * 5 + 2, none⟩ (.int .i64 b.ops[J].y)).setCell ⟨bo, ofs + (J + 1) * 5 + 3, none⟩ (.int .i64 b.ops[J].k)).setCell ⟨bo, ofs + (J + 1) * 5 + 4, none⟩ (.int .i64 b.ops[J].at_)).drew = w6 at *
        have hRo := hRn
        clear hRn
        have hJ2 : J < (b.ops.set (J + 1) b.ops[J]).length := by simp; omega
        have yx : w1.heap.size < w6.heap.size := by omega
        have xx0 := hBx_6 0 _ rfl
        have xx1 := hBx_6 1 _ rfl
        have xx2 := hBx_6 2 _ rfl
        have xx3 := hBx_6 3 _ rfl
        have xx4 := hBx_6 4 _ rfl
        have xx5 := hBx_6 5 _ rfl
        have xx6 := hBx_6 6 _ rfl
        have fx := hFx_6
        have yo : w4.heap.size < w6.heap.size := by omega
        have xo0 := hBo_6 0 _ rfl
        have xo1 := hBo_6 1 _ rfl
        have xo2 := hBo_6 2 _ rfl
        have xo3 := hBo_6 3 _ rfl
        have xo4 := hBo_6 4 _ rfl
        have fo := hFo_6
        obtain ⟨hk_u, u0, u1, u2, u3, u4⟩ := hRo.op (List.getElem?_eq_getElem hJ2)
        have fg := hRo.fz
        have yg := hRo.lt
        go_upto_region 27 with fail
        have hRn : FRow ((((((w6.setCell ⟨bo, ofs + J * 5, none⟩ (.int .i64 b.ops[J + 1].kind)).setCell ⟨bo, ofs + J * 5 + 1, none⟩ (.int .i64 b.ops[J + 1].x)).setCell ⟨bo, ofs + J * 5 + 2, none⟩ (.int .i64 b.ops[J + 1].y)).setCell ⟨bo, ofs + J * 5 + 3, none⟩ (.int .i64 b.ops[J + 1].k)).setCell ⟨bo, ofs + J * 5 + 4, none⟩ (.int .i64 b.ops[J + 1].at_))) bo ofs ((b.ops.set (J + 1) b.ops[J]).set J b.ops[J + 1]) := hRo.setOp (List.getElem?_eq_getElem hJ2) b.ops[J + 1] hk_e
        have hR7 := Rdr.hold (w' := (((((w6.setCell ⟨bo, ofs + J * 5, none⟩ (.int .i64 b.ops[J + 1].kind)).setCell ⟨bo, ofs + J * 5 + 1, none⟩ (.int .i64 b.ops[J + 1].x)).setCell ⟨bo, ofs + J * 5 + 2, none⟩ (.int .i64 b.ops[J + 1].y)).setCell ⟨bo, ofs + J * 5 + 3, none⟩ (.int .i64 b.ops[J + 1].k)).setCell ⟨bo, ofs + J * 5 + 4, none⟩ (.int .i64 b.ops[J + 1].at_))) hR6
        have hT7 : Turn [rb] w ((((((w6.setCell ⟨bo, ofs + J * 5, none⟩ (.int .i64 b.ops[J + 1].kind)).setCell ⟨bo, ofs + J * 5 + 1, none⟩ (.int .i64 b.ops[J + 1].x)).setCell ⟨bo, ofs + J * 5 + 2, none⟩ (.int .i64 b.ops[J + 1].y)).setCell ⟨bo, ofs + J * 5 + 3, none⟩ (.int .i64 b.ops[J + 1].k)).setCell ⟨bo, ofs + J * 5 + 4, none⟩ (.int .i64 b.ops[J + 1].at_))) := Turn.hold hT6
        have hs7 : w6.heap.size ≤ ((((((w6.setCell ⟨bo, ofs + J * 5, none⟩ (.int .i64 b.ops[J + 1].kind)).setCell ⟨bo, ofs + J * 5 + 1, none⟩ (.int .i64 b.ops[J + 1].x)).setCell ⟨bo, ofs + J * 5 + 2, none⟩ (.int .i64 b.ops[J + 1].y)).setCell ⟨bo, ofs + J * 5 + 3, none⟩ (.int .i64 b.ops[J + 1].k)).setCell ⟨bo, ofs + J * 5 + 4, none⟩ (.int .i64 b.ops[J + 1].at_))).heap.size := by simp
        have hBres_7 : Bx ((((((w6.setCell ⟨bo, ofs + J * 5, none⟩ (.int .i64 b.ops[J + 1].kind)).setCell ⟨bo, ofs + J * 5 + 1, none⟩ (.int .i64 b.ops[J + 1].x)).setCell ⟨bo, ofs + J * 5 + 2, none⟩ (.int .i64 b.ops[J + 1].y)).setCell ⟨bo, ofs + J * 5 + 3, none⟩ (.int .i64 b.ops[J + 1].k)).setCell ⟨bo, ofs + J * 5 + 4, none⟩ (.int .i64 b.ops[J + 1].at_))) (w.heap.size + 1) [.int .i64 0, .int .i64 0, .slice none 0 0, .int .i64 0, .int .i64 0, .int .i64 0, .int .i64 0] := Bx.hold hBres_6
        have hFres_7 : ∀ oo, ((((((w6.setCell ⟨bo, ofs + J * 5, none⟩ (.int .i64 b.ops[J + 1].kind)).setCell ⟨bo, ofs + J * 5 + 1, none⟩ (.int .i64 b.ops[J + 1].x)).setCell ⟨bo, ofs + J * 5 + 2, none⟩ (.int .i64 b.ops[J + 1].y)).setCell ⟨bo, ofs + J * 5 + 3, none⟩ (.int .i64 b.ops[J + 1].k)).setCell ⟨bo, ofs + J * 5 + 4, none⟩ (.int .i64 b.ops[J + 1].at_))).frozen? ⟨w.heap.size + 1, oo, none⟩ = false := fz_hold hFres_6
        have hBx_7 : Bx ((((((w6.setCell ⟨bo, ofs + J * 5, none⟩ (.int .i64 b.ops[J + 1].kind)).setCell ⟨bo, ofs + J * 5 + 1, none⟩ (.int .i64 b.ops[J + 1].x)).setCell ⟨bo, ofs + J * 5 + 2, none⟩ (.int .i64 b.ops[J + 1].y)).setCell ⟨bo, ofs + J * 5 + 3, none⟩ (.int .i64 b.ops[J + 1].k)).setCell ⟨bo, ofs + J * 5 + 4, none⟩ (.int .i64 b.ops[J + 1].at_))) (w1.heap.size) [.int .i64 b.pc, .int .i64 b.len, .slice (some ⟨bo, ofs, none⟩) b.ops.length d1, .int .i64 b.fin, .int .i64 b.x, .int .i64 b.y, .int .i64 b.k] := Bx.hold hBx_6
        have hFx_7 : ∀ oo, ((((((w6.setCell ⟨bo, ofs + J * 5, none⟩ (.int .i64 b.ops[J + 1].kind)).setCell ⟨bo, ofs + J * 5 + 1, none⟩ (.int .i64 b.ops[J + 1].x)).setCell ⟨bo, ofs + J * 5 + 2, none⟩ (.int .i64 b.ops[J + 1].y)).setCell ⟨bo, ofs + J * 5 + 3, none⟩ (.int .i64 b.ops[J + 1].k)).setCell ⟨bo, ofs + J * 5 + 4, none⟩ (.int .i64 b.ops[J + 1].at_))).frozen? ⟨w1.heap.size, oo, none⟩ = false := fz_hold hFx_6
        have hBo_7 : Bx ((((((w6.setCell ⟨bo, ofs + J * 5, none⟩ (.int .i64 b.ops[J + 1].kind)).setCell ⟨bo, ofs + J * 5 + 1, none⟩ (.int .i64 b.ops[J + 1].x)).setCell ⟨bo, ofs + J * 5 + 2, none⟩ (.int .i64 b.ops[J + 1].y)).setCell ⟨bo, ofs + J * 5 + 3, none⟩ (.int .i64 b.ops[J + 1].k)).setCell ⟨bo, ofs + J * 5 + 4, none⟩ (.int .i64 b.ops[J + 1].at_))) (w4.heap.size) [.int .i64 (b.ops[J + 1].kind), .int .i64 (b.ops[J + 1].x), .int .i64 (b.ops[J + 1].y), .int .i64 (b.ops[J + 1].k), .int .i64 (b.ops[J + 1].at_)] := Bx.hold hBo_6
        have hFo_7 : ∀ oo, ((((((w6.setCell ⟨bo, ofs + J * 5, none⟩ (.int .i64 b.ops[J + 1].kind)).setCell ⟨bo, ofs + J * 5 + 1, none⟩ (.int .i64 b.ops[J + 1].x)).setCell ⟨bo, ofs + J * 5 + 2, none⟩ (.int .i64 b.ops[J + 1].y)).setCell ⟨bo, ofs + J * 5 + 3, none⟩ (.int .i64 b.ops[J + 1].k)).setCell ⟨bo, ofs + J * 5 + 4, none⟩ (.int .i64 b.ops[J + 1].at_))).frozen? ⟨w4.heap.size, oo, none⟩ = false := fz_hold hFo_6
        clear fg yg hRo hBres_6 hFres_6 hBx_6 hFx_6 hBo_6 hFo_6
        generalize (((((w6.setCell ⟨bo, ofs + J * 5, none⟩ (.int .i64 b.ops[J + 1].kind)).setCell ⟨bo, ofs + J * 5 + 1, none⟩ (.int .i64 b.ops[J + 1].x)).setCell ⟨bo, ofs + J * 5 + 2, none⟩ (.int .i64 b.ops[J + 1].y)).setCell ⟨bo, ofs + J * 5 + 3, none⟩ (.int .i64 b.ops[J + 1].k)).setCell ⟨bo, ofs + J * 5 + 4, none⟩ (.int .i64 b.ops[J + 1].at_)) = w7 at *
        have hRo := hRn
        clear hRn
        have yx : w1.heap.size < w7.heap.size := by omega
        have xx0 := hBx_7 0 _ rfl
        have xx1 := hBx_7 1 _ rfl
        have xx2 := hBx_7 2 _ rfl
        have xx3 := hBx_7 3 _ rfl
        have xx4 := hBx_7 4 _ rfl
        have xx5 := hBx_7 5 _ rfl
        have xx6 := hBx_7 6 _ rfl
        have fx := hFx_7
        have yres : w.heap.size + 1 < w7.heap.size := by omega
        have xres0 := hBres_7 0 _ rfl
        have xres1 := hBres_7 1 _ rfl
        have xres2 := hBres_7 2 _ rfl
        have xres3 := hBres_7 3 _ rfl
        have xres4 := hBres_7 4 _ rfl
        have xres5 := hBres_7 5 _ rfl
        have xres6 := hBres_7 6 _ rfl
        have fres := hFres_7
        go_wp2
        refine bodyPost_ret (v := .agg #[.int .i64 (b.pc), .int .i64 (b.len), .slice (some ⟨bo, ofs, none⟩) b.ops.length d1, .int .i64 (b.fin), .int .i64 (b.x), .int .i64 (b.y), .int .i64 (b.k)]) (by simp [results, Try.results76, go_sem, xres0, xres1, xres2, xres3, xres4, xres5, xres6]) rfl ⟨⟨⟨b.pc, b.len, (b.ops.set (J + 1) b.ops[J]).set J b.ops[J + 1], b.fin, b.x, b.y, b.k⟩, (some ⟨bo, ofs, none⟩), d1, by simp only [List.length_set], ?_, ?_, ?_⟩, ?_, ?_⟩
        · exact GlO.down (lo := w0.heap.size) ((GlO.of_row (FRow.hold hRo) (by simp only [List.length_set]) (by simp only [List.length_set]; omega) hm1 hbo)) (by omega)
        · exact hkb
        · exact by simp only [List.length_set]; omega
        · exact (Rdr.hold hR7).up (by omega)
        · exact Turn.hold hT7
    · 
      have yx : w1.heap.size < w4.heap.size := by omega
      have xx0 := hBx_4 0 _ rfl
      have xx1 := hBx_4 1 _ rfl
      have xx2 := hBx_4 2 _ rfl
      have xx3 := hBx_4 3 _ rfl
      have xx4 := hBx_4 4 _ rfl
      have xx5 := hBx_4 5 _ rfl
      have xx6 := hBx_4 6 _ rfl
      have fx := hFx_4
      go_upto_region 26 with fail
      have hSx : ∀ w', Turn [rb] w4 w' → ∀ oo, w'.cell? ⟨w1.heap.size, oo, none⟩ = w4.cell? ⟨w1.heap.size, oo, none⟩ := fun w' hx oo => hx.cell (by omega) (by simp; omega)
      refine wp_region_plan (fun w' => Turn [rb] w4 w') 6 (.float 0 (.float 1 (.float 2 (.float 3 (.chain 4 (.float 5 (.tail 6))))))) (by kernel_rfl) (by kernel_rfl) (Turn.of_ext (Ext.refl _).drew _) ?_
      iterate 4 ((refine Plan.float_step (v := ?_) rfl (by rfl) (fun _ _ _ h => h) (fun w' hSw => ?_) ?_; rotate_left; · (go_simp; try with_reducible rfl)); (try simp only [Act.put, List.setIfInBounds_toArray, List.set_cons_zero, List.set_cons_succ]))
      refine Plan.chain_step rfl (fun K hK => ?_)
      go_simp
      skip
      refine (pick_any rb base _ _ (Rdr.hold hR4) (by omega) 3 (by omega) (by omega)).mono ?_
      rintro e w5 ⟨⟨m, rfl, lm, qm⟩, hR5, hy⟩
      have um : m < 3 := by omega
      clear qm
      refine hK.out _ _ (Turn.pre Ext.auto hy) ?_
      clear hK
      (try simp only [Act.put, List.setIfInBounds_toArray, List.set_cons_zero, List.set_cons_succ])
      have hs5 := hy.size
      try simp at hs5
      have hT5 : Turn [rb] w w5 := (Turn.hold hT4).trans hy
      have hBres_5 : Bx w5 (w.heap.size + 1) [.int .i64 0, .int .i64 0, .slice none 0 0, .int .i64 0, .int .i64 0, .int .i64 0, .int .i64 0] := hy.bx (Bx.hold hBres_4) (by first | omega | (simp; done) | (simp; omega)) (by simp; omega)
      have hFres_5 : ∀ oo, w5.frozen? ⟨w.heap.size + 1, oo, none⟩ = false := fun oo => (hy.frozen (by first | omega | (simp; done) | (simp; omega)) (by simp; omega)).trans ((fz_hold hFres_4) oo)
      have hBx_5 : Bx w5 (w1.heap.size) [.int .i64 b.pc, .int .i64 b.len, .slice (some ⟨bo, ofs, none⟩) b.ops.length d1, .int .i64 b.fin, .int .i64 b.x, .int .i64 b.y, .int .i64 b.k] := hy.bx (Bx.hold hBx_4) (by first | omega | (simp; done) | (simp; omega)) (by simp; omega)
      have hFx_5 : ∀ oo, w5.frozen? ⟨w1.heap.size, oo, none⟩ = false := fun oo => (hy.frozen (by first | omega | (simp; done) | (simp; omega)) (by simp; omega)).trans ((fz_hold hFx_4) oo)
      clear hBres_4 hFres_4 hBx_4 hFx_4
      replace hRo := FRow.turned (FRow.ext hRo Ext.auto) hy (by simp; omega)
      clear hy
      (refine Plan.float_step (v := ?_) rfl (by rfl) (fun _ _ _ h => h) (fun w' hSw => ?_) ?_; rotate_left; · (go_simp; try with_reducible rfl)); (try simp only [Act.put, List.setIfInBounds_toArray, List.set_cons_zero, List.set_cons_succ])
      refine Plan.tail_step ?_
      simp only [List.drop_succ_cons, List.drop_zero]
      clear hSx
      clear xx0 xx1 xx2 xx3 xx4 xx5 xx6 yx
      clear fx
      obtain ⟨hk_e, e0, e1, e2, e3, e4⟩ := hRo.op (List.getElem?_eq_getElem hQ)
      have fg := hRo.fz
      have yg := hRo.lt
      go_upto_region 27 with fail
      have hRn : FRow ((((((w5.setCell ⟨bo, ofs + Q * 5, none⟩ (.int .i64 1)).setCell ⟨bo, ofs + Q * 5 + 1, none⟩ (.int .i64 0)).setCell ⟨bo, ofs + Q * 5 + 2, none⟩ (.int .i64 0)).setCell ⟨bo, ofs + Q * 5 + 3, none⟩ (.int .i64 m)).setCell ⟨bo, ofs + Q * 5 + 4, none⟩ (.int .i64 0))) bo ofs (b.ops.set Q ⟨1, 0, 0, m, 0⟩) := hRo.setOp (List.getElem?_eq_getElem hQ) ⟨1, 0, 0, m, 0⟩ (by unfold IrOp.Ok Fits; simp; omega)
      have hR6 := Rdr.hold (w' := (((((w5.setCell ⟨bo, ofs + Q * 5, none⟩ (.int .i64 1)).setCell ⟨bo, ofs + Q * 5 + 1, none⟩ (.int .i64 0)).setCell ⟨bo, ofs + Q * 5 + 2, none⟩ (.int .i64 0)).setCell ⟨bo, ofs + Q * 5 + 3, none⟩ (.int .i64 m)).setCell ⟨bo, ofs + Q * 5 + 4, none⟩ (.int .i64 0))) hR5
      have hT6 : Turn [rb] w ((((((w5.setCell ⟨bo, ofs + Q * 5, none⟩ (.int .i64 1)).setCell ⟨bo, ofs + Q * 5 + 1, none⟩ (.int .i64 0)).setCell ⟨bo, ofs + Q * 5 + 2, none⟩ (.int .i64 0)).setCell ⟨bo, ofs + Q * 5 + 3, none⟩ (.int .i64 m)).setCell ⟨bo, ofs + Q * 5 + 4, none⟩ (.int .i64 0))) := Turn.hold hT5
      have hs6 : w5.heap.size ≤ ((((((w5.setCell ⟨bo, ofs + Q * 5, none⟩ (.int .i64 1)).setCell ⟨bo, ofs + Q * 5 + 1, none⟩ (.int .i64 0)).setCell ⟨bo, ofs + Q * 5 + 2, none⟩ (.int .i64 0)).setCell ⟨bo, ofs + Q * 5 + 3, none⟩ (.int .i64 m)).setCell ⟨bo, ofs + Q * 5 + 4, none⟩ (.int .i64 0))).heap.size := by simp
      have hBres_6 : Bx ((((((w5.setCell ⟨bo, ofs + Q * 5, none⟩ (.int .i64 1)).setCell ⟨bo, ofs + Q * 5 + 1, none⟩ (.int .i64 0)).setCell ⟨bo, ofs + Q * 5 + 2, none⟩ (.int .i64 0)).setCell ⟨bo, ofs + Q * 5 + 3, none⟩ (.int .i64 m)).setCell ⟨bo, ofs + Q * 5 + 4, none⟩ (.int .i64 0))) (w.heap.size + 1) [.int .i64 0, .int .i64 0, .slice none 0 0, .int .i64 0, .int .i64 0, .int .i64 0, .int .i64 0] := Bx.hold hBres_5
      have hFres_6 : ∀ oo, ((((((w5.setCell ⟨bo, ofs + Q * 5, none⟩ (.int .i64 1)).setCell ⟨bo, ofs + Q * 5 + 1, none⟩ (.int .i64 0)).setCell ⟨bo, ofs + Q * 5 + 2, none⟩ (.int .i64 0)).setCell ⟨bo, ofs + Q * 5 + 3, none⟩ (.int .i64 m)).setCell ⟨bo, ofs + Q * 5 + 4, none⟩ (.int .i64 0))).frozen? ⟨w.heap.size + 1, oo, none⟩ = false := fz_hold hFres_5
      have hBx_6 : Bx ((((((w5.setCell ⟨bo, ofs + Q * 5, none⟩ (.int .i64 1)).setCell ⟨bo, ofs + Q * 5 + 1, none⟩ (.int .i64 0)).setCell ⟨bo, ofs + Q * 5 + 2, none⟩ (.int .i64 0)).setCell ⟨bo, ofs + Q * 5 + 3, none⟩ (.int .i64 m)).setCell ⟨bo, ofs + Q * 5 + 4, none⟩ (.int .i64 0))) (w1.heap.size) [.int .i64 b.pc, .int .i64 b.len, .slice (some ⟨bo, ofs, none⟩) b.ops.length d1, .int .i64 b.fin, .int .i64 b.x, .int .i64 b.y, .int .i64 b.k] := Bx.hold hBx_5
      have hFx_6 : ∀ oo, ((((((w5.setCell ⟨bo, ofs + Q * 5, none⟩ (.int .i64 1)).setCell ⟨bo, ofs + Q * 5 + 1, none⟩ (.int .i64 0)).setCell ⟨bo, ofs + Q * 5 + 2, none⟩ (.int .i64 0)).setCell ⟨bo, ofs + Q * 5 + 3, none⟩ (.int .i64 m)).setCell ⟨bo, ofs + Q * 5 + 4, none⟩ (.int .i64 0))).frozen? ⟨w1.heap.size, oo, none⟩ = false := fz_hold hFx_5
      clear fg yg hRo hBres_5 hFres_5 hBx_5 hFx_5 e0 e1 e2 e3 e4
      generalize (((((w5.setCell ⟨bo, ofs + Q * 5, none⟩ (.int .i64 1)).setCell ⟨bo, ofs + Q * 5 + 1, none⟩ (.int .i64 0)).setCell ⟨bo, ofs + Q * 5 + 2, none⟩ (.int .i64 0)).setCell ⟨bo, ofs + Q * 5 + 3, none⟩ (.int .i64 m)).setCell ⟨bo, ofs + Q * 5 + 4, none⟩ (.int .i64 0)) = w6 at *
      have hRo := hRn
      clear hRn
      have yx : w1.heap.size < w6.heap.size := by omega
      have xx0 := hBx_6 0 _ rfl
      have xx1 := hBx_6 1 _ rfl
      have xx2 := hBx_6 2 _ rfl
      have xx3 := hBx_6 3 _ rfl
      have xx4 := hBx_6 4 _ rfl
      have xx5 := hBx_6 5 _ rfl
      have xx6 := hBx_6 6 _ rfl
      have fx := hFx_6
      have yres : w.heap.size + 1 < w6.heap.size := by omega
      have xres0 := hBres_6 0 _ rfl
      have xres1 := hBres_6 1 _ rfl
      have xres2 := hBres_6 2 _ rfl
      have xres3 := hBres_6 3 _ rfl
      have xres4 := hBres_6 4 _ rfl
      have xres5 := hBres_6 5 _ rfl
      have xres6 := hBres_6 6 _ rfl
      have fres := hFres_6
      go_wp2
      refine bodyPost_ret (v := .agg #[.int .i64 (b.pc), .int .i64 (b.len), .slice (some ⟨bo, ofs, none⟩) b.ops.length d1, .int .i64 (b.fin), .int .i64 (b.x), .int .i64 (b.y), .int .i64 (b.k)]) (by simp [results, Try.results76, go_sem, xres0, xres1, xres2, xres3, xres4, xres5, xres6]) rfl ⟨⟨⟨b.pc, b.len, b.ops.set Q ⟨1, 0, 0, m, 0⟩, b.fin, b.x, b.y, b.k⟩, (some ⟨bo, ofs, none⟩), d1, by simp only [List.length_set], ?_, ?_, ?_⟩, ?_, ?_⟩
      · exact GlO.down (lo := w0.heap.size) ((GlO.of_row (FRow.hold hRo) (by simp only [List.length_set]) (by simp only [List.length_set]; omega) hm1 hbo)) (by omega)
      · exact hkb
      · exact by simp only [List.length_set]; omega
      · exact (Rdr.hold hR6).up (by omega)
      · exact Turn.hold hT6
    · 
      have zkd : (Q : Int) ≤ (d1 : Int) := by omega
      have hRt := hRo.take Q
      have hKl : (b.ops.take Q).length = Q := by rw [List.length_take]; omega
      generalize b.ops.take Q = Lt at *
      have hKl2 := hide hKl
      clear hKl
      have yx : w1.heap.size < w4.heap.size := by omega
      have xx0 := hBx_4 0 _ rfl
      have xx1 := hBx_4 1 _ rfl
      have xx2 := hBx_4 2 _ rfl
      have xx3 := hBx_4 3 _ rfl
      have xx4 := hBx_4 4 _ rfl
      have xx5 := hBx_4 5 _ rfl
      have xx6 := hBx_4 6 _ rfl
      have fx := hFx_4
      have yres : w.heap.size + 1 < w4.heap.size := by omega
      have xres0 := hBres_4 0 _ rfl
      have xres1 := hBres_4 1 _ rfl
      have xres2 := hBres_4 2 _ rfl
      have xres3 := hBres_4 3 _ rfl
      have xres4 := hBres_4 4 _ rfl
      have xres5 := hBres_4 5 _ rfl
      have xres6 := hBres_4 6 _ rfl
      have fres := hFres_4
      go_wp2
      refine bodyPost_ret (v := .agg #[.int .i64 (b.pc), .int .i64 (b.len), .slice (some ⟨bo, ofs, none⟩) Q d1, .int .i64 (b.fin), .int .i64 (b.x), .int .i64 (b.y), .int .i64 (b.k)]) (by simp [results, Try.results76, go_sem, xres0, xres1, xres2, xres3, xres4, xres5, xres6]) rfl ⟨⟨⟨b.pc, b.len, Lt, b.fin, b.x, b.y, b.k⟩, (some ⟨bo, ofs, none⟩), d1, by rw [show (IrBlock.mk b.pc b.len Lt b.fin b.x b.y b.k).ops.length = Q from hKl2.out], ?_, ?_, ?_⟩, ?_, ?_⟩
      · exact GlO.down (lo := w0.heap.size) (GlO.of_row (FRow.hold hRt) rfl (by show Lt.length ≤ d1; rw [hKl2.out]; omega) (by unfold maxLen; omega) hbo) (by omega)
      · exact hkb
      · exact by show Lt.length ≤ 49; rw [hKl2.out]; omega
      · exact (Rdr.hold hR4).up (by omega)
      · exact Turn.hold hT4

end Go.Proofs.Yteaacelfnkiboaa
