/-
  DrawTO
-/
import Derived.Test.YtmbclopkopfngaaQDrawT
import Derived.Test.YtmbclopkopfngaaQByteLib
import Derived.Deep.DeepCutAuto
namespace Go.Proofs.Ytmbclopkopfngaa
open Go.RowKit

set_option linter.unusedVariables false
set_option linter.unusedSimpArgs false
set_option maxRecDepth 100000

instance : Ones TabAtom where
  ones h u hu := by
    obtain ⟨v1, v2, rfl, _, h3, h4⟩ := h
    obtain ⟨A, c, rfl, _, _⟩ := h3.form
    obtain ⟨B, d, rfl, _, _⟩ := h4.form
    simp at hu
    rcases hu with rfl | rfl | rfl | rfl <;> rfl
theorem RawOf.turn {α : Type} [Rep α] {k : Nat} {w w' : World} {S : Nat → Prop} {l : List α} {R : List (Raw k)} {F : List Nat} (h : RawOf w S l R) (k2 : Turn F w w') (hS : ∀ b, S b → b < w.heap.size ∧ b ∉ F) : RawOf w' S l R :=
  h.keep (fun b o hb => k2.cell (hS b hb).1 (hS b hb).2) (fun _ h => h)
theorem OwnSl.tail_ne {α : Type} [Own α] {w : World} {v : Value} {l : List α} {F : List Nat} (h : OwnSl w v l F) (hn : F.Nodup) : ∀ b, b ∈ F.tail → b ∈ F ∧ v.ownBlock ≠ some b := by
  obtain ⟨A, c, h1, h2, h3, h0, hnil, h4⟩ := h
  intro b hb
  refine ⟨List.mem_of_mem_tail hb, fun e => ?_⟩
  by_cases hl : l = []
  · rw [hnil hl] at hb; simp at hb
  · obtain ⟨b0, off, Fs, e1, rfl, -, -, -⟩ := h4 hl
    subst h1
    rw [e1] at e
    simp [Value.ownBlock] at e
    subst e
    simp at hb
    have := (List.nodup_cons.1 hn).1
    exact this (by simpa using hb)
theorem Tb.raw {lo hi : Nat} {w : World} {v : Value} {t : TabTab} (h : Tb lo hi w v t) : ∃ R : List (Raw 3), R.length = t.atoms.length ∧ Gro 30 lo w v R ∧ RawOf w (fun b => (lo ≤ b ∧ b < hi) ∧ v.ownBlock ≠ some b) t.atoms R := by
  obtain ⟨F, h1, h2, h3⟩ := h.own
  obtain ⟨R, g1, g2⟩ := Gro.of_room_raw (k := 3) rfl h1 h.room
  exact ⟨R, g2.1, g1, g2.keep (fun _ _ _ => rfl) (fun b hb => ⟨h3 b (h1.tail_ne h2 b hb).1, (h1.tail_ne h2 b hb).2⟩)⟩
theorem Tb.gl {lo hi : Nat} {w : World} {v : Value} {t : TabTab} (h : Tb lo hi w v t) : GlO lo w v t.atoms := by
  obtain ⟨F, h1, h2, h3⟩ := h.own
  exact h1.sl.keep (fun _ _ _ => rfl) (fun b hb => ⟨(h3 b hb).1, Nat.lt_of_lt_of_le (h3 b hb).2 h.up⟩)
theorem raw_at {e : TypeId} {lo : Nat} {w : World} {A : Option Addr} {n c : Nat} {R : List (Raw 3)} {S : Nat → Prop} {l : List TabAtom} (h : Gro e lo w (.slice A n c) R) (hr : RawOf w S l R) {i : Nat} (hi : i < l.length) :
    ∃ (b off : Nat) (v1 v2 : Value), A = some ⟨b, off, none⟩ ∧ (lo ≤ b ∧ b < w.heap.size) ∧ l[i].Ok ∧ Sl w S v1 l[i].x.monos ∧ Sl w S v2 l[i].y.monos ∧ w.cell? ⟨b, off + i * 4, none⟩ = some (.int .i64 (l[i].kind)) ∧ w.cell? ⟨b, off + i * 4 + 1, none⟩ = some (.int .i64 (l[i].k)) ∧ w.cell? ⟨b, off + i * 4 + 2, none⟩ = some v1 ∧ w.cell? ⟨b, off + i * 4 + 3, none⟩ = some v2 := by
  have hi' : i < R.length := by rw [hr.1]; exact hi
  obtain ⟨A', c', h1, h2, h3, h0, h4⟩ := GlO.of_gro h
  injection h1 with e1 e2 e3
  subst e1
  obtain ⟨b, off, e, hb, hat⟩ := h4 (fun e => by rw [e] at hi'; simp at hi')
  obtain ⟨vs, g1, g2⟩ := hat i R[i] (List.getElem?_eq_getElem hi')
  have g1 : vs = R[i].vs := g1
  obtain ⟨v1, v2, hv, hk, hv1, hv2⟩ := hr.2 i l[i] R[i] (List.getElem?_eq_getElem hi) (List.getElem?_eq_getElem hi')
  rw [hv] at g1
  subst g1
  have g : ∀ j u, [Value.int .i64 l[i].kind, .int .i64 l[i].k, v1, v2][j]? = some u → w.cell? ⟨b, off + (i * 4 + j), none⟩ = some u := g2
  exact ⟨b, off, v1, v2, e, hb, hk, hv1, hv2, g 0 _ rfl, g 1 _ rfl, g 2 _ rfl, g 3 _ rfl⟩
theorem blk_tab (t : TabTab) : Bulk.blk t = Bulk.blk t.atoms := rfl
theorem blk_set0 (l : List TabAtom) (a b : TabAtom) (h : l[0]? = some a) (hb : Bulk.blk b = Bulk.blk a) : Bulk.blk (l.set 0 b) = Bulk.blk l := by
  cases l with
  | nil => simp at h
  | cons x r =>
    simp at h
    subst h
    rw [blk_list, blk_list]
    simp [hb]
theorem Tb.some {lo hi : Nat} {w : World} {A : Option Addr} {n c : Nat} {t : TabTab} (h : Tb lo hi w (.slice A n c) t) : ∃ b off, A = Option.some ⟨b, off, none⟩ := by
  obtain ⟨b, off, v1, v2, e, -⟩ := at_TabAtom h.sl (i := 0) (by have := h.ge; omega)
  exact ⟨b, off, e⟩
theorem Tb.row {lo hi : Nat} {w : World} {b off n c : Nat} {t : TabTab} (h : Tb lo hi w (.slice (Option.some ⟨b, off, none⟩) n c) t) : ∃ R : List (Raw 3), FRow w b off R ∧ RawOf w (fun x => (lo ≤ x ∧ x < hi) ∧ x ≠ b) t.atoms R ∧ (lo ≤ b ∧ b < hi) ∧ n = t.atoms.length ∧ t.atoms.length ≤ c ∧ c ≤ maxLen := by
  obtain ⟨F, h1, h2, h3⟩ := h.own
  obtain ⟨R, g1, g2⟩ := h1.raw (k := 3) rfl
  have hT := h1.tail_ne h2
  have hge := h.ge
  obtain ⟨A, c', q1, q2, q3, q0, qn, q4⟩ := g1
  obtain ⟨b', off', Fs, e, hFe, hlen, hfz, hat⟩ := q4 (by intro e; have := g2.1; rw [e] at this; simp at this; omega)
  injection q1 with e1 e2 e3
  subst e1 e3
  injection e with e
  injection e with e1 e2
  subst e1 e2
  have hb : b ∈ F := List.mem_of_mem_take (i := 1) (by rw [hFe]; simp)
  refine ⟨R, ⟨hfz, Nat.lt_of_lt_of_le (h3 b hb).2 h.up, fun i r hr => ?_⟩, g2.keep (fun _ _ _ => rfl) (fun x hx => ⟨h3 x (hT x hx).1, fun e => (hT x hx).2 (by subst e; rfl)⟩), h3 b hb, by rw [e2, g2.1], by rw [← g2.1]; exact q2, q3⟩
  have hi : i < Fs.length := by rw [hlen]; exact (List.getElem?_eq_some_iff.1 hr).1
  obtain ⟨vs, k1, k2⟩ := hat i r _ hr (List.getElem?_eq_getElem hi)
  exact ⟨vs, k1.1, k2⟩
theorem Tb.cell0 {lo hi : Nat} {w : World} {b off n c : Nat} {t : TabTab} (h : Tb lo hi w (.slice (Option.some ⟨b, off, none⟩) n c) t) : (lo ≤ b ∧ b < hi) ∧ (∃ k, w.cell? ⟨b, off, none⟩ = Option.some (.int .i64 k)) ∧ ∀ oo, w.frozen? ⟨b, oo, none⟩ = false := by
  obtain ⟨R, hr, -, hb, -, -, -⟩ := h.row
  obtain ⟨b', off', v1, v2, e, -, -, -, -, e0, -⟩ := at_TabAtom h.sl (i := 0) (by have := h.ge; omega)
  injection e with e
  injection e with e1 e2
  subst e1 e2
  rw [Nat.zero_mul, Nat.add_zero] at e0
  exact ⟨hb, ⟨_, e0⟩, hr.fz⟩
theorem Tb.setKind {lo hi : Nat} {w : World} {b off n c : Nat} {t : TabTab} (h : Tb lo hi w (.slice (Option.some ⟨b, off, none⟩) n c) t) {kd : Int} (hk : Fits kd) (hl : 0 < t.atoms.length) :
    GlB lo hi (w.setCell ⟨b, off, none⟩ (.int .i64 kd)) (.slice (Option.some ⟨b, off, none⟩) n c) (t.atoms.set 0 ⟨kd, t.atoms[0].k, t.atoms[0].x, t.atoms[0].y⟩) := by
  obtain ⟨R, hr, g2, hb, hn, hc, hm⟩ := h.row
  have hR : 0 < R.length := by rw [g2.1]; exact hl
  obtain ⟨v1, v2, hv, hk0, hv1, hv2⟩ := g2.2 0 t.atoms[0] R[0] (List.getElem?_eq_getElem hl) (List.getElem?_eq_getElem hR)
  obtain ⟨B1, d1, e1, -, -⟩ := hv1.form
  obtain ⟨B2, d2, e2, -, -⟩ := hv2.form
  have hone : ∀ u, u ∈ [Value.int .i64 kd, .int .i64 t.atoms[0].k, v1, v2] → u.oneCell' = true := by
    subst e1 e2
    intro u hu
    simp at hu
    rcases hu with rfl | rfl | rfl | rfl <;> rfl
  obtain ⟨vs, k1, k2⟩ := hr.els 0 R[0] (List.getElem?_eq_getElem hR)
  have k1 : vs = R[0].vs := k1
  rw [hv] at k1
  subst k1
  have hrow := hr.put (i := 0) (j := 0) (S := fun _ => False) (u := .int .i64 kd) hR (⟨_, rfl, hone⟩ : Raw 3) _ _ k2 rfl (by decide) rfl rfl (o := off) (by simp)
  have hc2 : ∀ x o, ((lo ≤ x ∧ x < hi) ∧ x ≠ b) → (w.setCell ⟨b, off, none⟩ (.int .i64 kd)).cell? ⟨x, o, none⟩ = w.cell? ⟨x, o, none⟩ := fun x o hx => by rw [World.cell?_setCell_other]; intro e; injection e with e _ _; exact hx.2 e.symm
  have hraw := (g2.keep (S' := fun x => (lo ≤ x ∧ x < hi) ∧ x ≠ b) hc2 (fun _ h => h)).set (i := 0) (a := ⟨kd, t.atoms[0].k, t.atoms[0].x, t.atoms[0].y⟩) (r := (⟨_, rfl, hone⟩ : Raw 3)) ⟨v1, v2, rfl, ⟨hk, hk0.2⟩, hv1.keep hc2 (fun _ h => h), hv2.keep hc2 (fun _ h => h)⟩
  refine ⟨Sl.of_raw rfl ((hrow.slAt (n := n) (c := c) (by rw [hn, hraw.1, List.length_set]) (by rw [hraw.1, List.length_set]; exact hc) hm).keep (fun _ _ _ => rfl) (fun x hx => by subst hx; exact hb)) (hraw.keep (fun _ _ _ => rfl) (fun _ h => h.1)), ?_⟩
  have := h.up
  simpa using this

set_option maxHeartbeats 16000000 in
theorem l21TabOr_any (rb base P : Nat) (w : World) (h : Rdr rb base P w) (hP : P ≤ 1099511300000) (n : Int) (hn0 : 0 ≤ n) (hn : n ≤ 1000) :
    Calls Try.prog 24 #[.pointer (some ⟨rb, 0, none⟩), .int .i64 n] w fun e w' => (∃ (L : List TabAtom) (A : Option Addr) (c : Nat), e = .returned (.agg #[.slice A L.length c]) ∧ GlO w.heap.size w' (.slice A L.length c) L ∧ 0 < L.length ∧ L.length ≤ 13 ∧ Bulk.blk L ≤ 70000) ∧ Rdr rb base (P + 1620) w' ∧ Turn [rb] w w' := by
  have hlt := h.lt
  have hlt1 := hlt.1
  have hlt2 := hlt.2
  clear hlt
  obtain ⟨i0a, hi_, hz0, hz1, hz2⟩ := info_parts infTabAtom
  have HIa := hide hi_
  have HZ0a := hide hz0
  have HZ1a := hide hz1
  have HZ2a := hide hz2
  clear hi_ hz0 hz1 hz2
  go_enter Try.func24, Try.ntmps24
  go_upto_region 1 with fail
  have he0 : Ext w (w.alloc (Obj.cells #[.slice none 0 0] 25)) := (Ext.auto)
  have hs0 : w.heap.size + 1 ≤ ((w.alloc (Obj.cells #[.slice none 0 0] 25))).heap.size := by simp
  have hq0 := hide (show ((w.alloc (Obj.cells #[.slice none 0 0] 25))).heap.size = w.heap.size + 1 by simp)
  have hBres_0 : Bx (w.alloc (Obj.cells #[.slice none 0 0] 25)) (w.heap.size) [.slice none 0 0] := (by have := (Bx.new w #[.slice none 0 0] 25); simpa using this)
  have hFres_0 : ∀ oo, ((w.alloc (Obj.cells #[.slice none 0 0] 25))).frozen? ⟨w.heap.size, oo, none⟩ = false := fun oo => by simp
  generalize (w.alloc (Obj.cells #[.slice none 0 0] 25)) = w0 at *
  have hR0 : Rdr rb base P w0 := h.ext he0
  have hT0 : Turn [rb] w w0 := Turn.of_ext he0 _
  go_wp2_with fail
  refine (l21Tab_any rb base _ _ (Rdr.hold hR0) (by omega)).mono ?_
  rintro e w1 ⟨⟨t, A1, c1, rfl, htb, hl12⟩, hR1, hy⟩
  have hs1 := hy.size
  try simp at hs1
  have hT1 : Turn [rb] w w1 := (Turn.hold hT0).trans hy
  have hBres_1 : Bx w1 (w.heap.size) [.slice none 0 0] := hy.bx (Bx.hold hBres_0) (by first | omega | (simp; done) | (simp; omega)) (by simp; omega)
  have hFres_1 : ∀ oo, w1.frozen? ⟨w.heap.size, oo, none⟩ = false := fun oo => (hy.frozen (by first | omega | (simp; done) | (simp; omega)) (by simp; omega)).trans ((fz_hold hFres_0) oo)
  clear hBres_0 hFres_0
  clear hy
  have hge := htb.ge
  have HOK := hide htb.ok
  go_upto_region 2 with fail
  have hR2 := Rdr.hold (w' := (w1.alloc (.cells #[.slice A1 t.atoms.length c1] 25))) hR1
  have hT2 : Turn [rb] w (w1.alloc (.cells #[.slice A1 t.atoms.length c1] 25)) := Turn.hold hT1
  have hs2 : w1.heap.size + 1 ≤ ((w1.alloc (.cells #[.slice A1 t.atoms.length c1] 25))).heap.size := by simp
  have hx2 : Ext w1 (w1.alloc (.cells #[.slice A1 t.atoms.length c1] 25)) := Ext.auto
  have hBt_2 : Bx (w1.alloc (.cells #[.slice A1 t.atoms.length c1] 25)) (w1.heap.size) [.slice A1 t.atoms.length c1] := (show Bx (w1.alloc (.cells #[.slice A1 t.atoms.length c1] 25)) w1.heap.size [.slice A1 t.atoms.length c1] from Bx.new w1 #[.slice A1 t.atoms.length c1] 25)
  have hFt_2 : ∀ oo, (w1.alloc (.cells #[.slice A1 t.atoms.length c1] 25)).frozen? ⟨w1.heap.size, oo, none⟩ = false := (show ∀ oo, (w1.alloc (.cells #[.slice A1 t.atoms.length c1] 25)).frozen? ⟨w1.heap.size, oo, none⟩ = false from fz_new w1 #[.slice A1 t.atoms.length c1] 25 rfl)
  have hBres_2 : Bx (w1.alloc (.cells #[.slice A1 t.atoms.length c1] 25)) (w.heap.size) [.slice none 0 0] := Bx.hold hBres_1
  have hFres_2 : ∀ oo, (w1.alloc (.cells #[.slice A1 t.atoms.length c1] 25)).frozen? ⟨w.heap.size, oo, none⟩ = false := fz_hold hFres_1
  clear hBres_1 hFres_1
  replace htb := Tb.ext htb hx2
  generalize (w1.alloc (.cells #[.slice A1 t.atoms.length c1] 25)) = w2 at *
  go_wp2_with fail
  refine (odd_any rb base _ _ (Rdr.hold hR2) (by omega) n (by omega) (by omega)).mono ?_
  rintro e w3 ⟨⟨bt, rfl⟩, hR3, hy⟩
  have hs3 := hy.size
  try simp at hs3
  have hT3 : Turn [rb] w w3 := (Turn.hold hT2).trans hy
  have hBres_3 : Bx w3 (w.heap.size) [.slice none 0 0] := hy.bx (Bx.hold hBres_2) (by first | omega | (simp; done) | (simp; omega)) (by simp; omega)
  have hFres_3 : ∀ oo, w3.frozen? ⟨w.heap.size, oo, none⟩ = false := fun oo => (hy.frozen (by first | omega | (simp; done) | (simp; omega)) (by simp; omega)).trans ((fz_hold hFres_2) oo)
  have hBt_3 : Bx w3 (w1.heap.size) [.slice A1 t.atoms.length c1] := hy.bx (Bx.hold hBt_2) (by first | omega | (simp; done) | (simp; omega)) (by simp; omega)
  have hFt_3 : ∀ oo, w3.frozen? ⟨w1.heap.size, oo, none⟩ = false := fun oo => (hy.frozen (by first | omega | (simp; done) | (simp; omega)) (by simp; omega)).trans ((fz_hold hFt_2) oo)
  clear hBres_2 hFres_2 hBt_2 hFt_2
  replace htb := Tb.turn (Tb.ext htb Ext.auto) hy (fun x hx => by simp at hx; omega)
  clear hy
  have hbk := (tab_blk HOK.out).2
  rw [blk_tab] at hbk
  cases bt
  · 
    have yt : w1.heap.size < w3.heap.size := by omega
    have xt0 : w3.cell? ⟨w1.heap.size, 0, none⟩ = some (.slice A1 t.atoms.length c1) := hBt_3 0 _ rfl
    have ft := hFt_3
    have yres : w.heap.size < w3.heap.size := by omega
    have xres0 : w3.cell? ⟨w.heap.size, 0, none⟩ = some (.slice none 0 0) := hBres_3 0 _ rfl
    have fres := hFres_3
    go_wp2
    refine bodyPost_ret (v := .agg #[.slice A1 t.atoms.length c1]) (by simp [results, Try.results24, go_sem, xres0]) rfl ⟨⟨t.atoms, A1, c1, rfl, ?_, by omega, by omega, by omega⟩, (Rdr.hold hR3).up (by omega), Turn.hold hT3⟩
    exact ((Tb.turn (F := [w.heap.size]) htb (Turn.hold (Turn.refl _ _)) (fun x hx => by simp at hx; omega)).gl).down (by omega)
  · 
    go_wp2_with fail
    refine (pick_any rb base _ _ (Rdr.hold hR3) (by omega) 4 (by omega) (by omega)).mono ?_
    rintro e w4 ⟨⟨v, rfl, lv, qv⟩, hR4, hy⟩
    have uv : v < 4 := by omega
    clear qv
    have hs4 := hy.size
    try simp at hs4
    have hT4 : Turn [rb] w w4 := (Turn.hold hT3).trans hy
    have hBres_4 : Bx w4 (w.heap.size) [.slice none 0 0] := hy.bx (Bx.hold hBres_3) (by first | omega | (simp; done) | (simp; omega)) (by simp; omega)
    have hFres_4 : ∀ oo, w4.frozen? ⟨w.heap.size, oo, none⟩ = false := fun oo => (hy.frozen (by first | omega | (simp; done) | (simp; omega)) (by simp; omega)).trans ((fz_hold hFres_3) oo)
    have hBt_4 : Bx w4 (w1.heap.size) [.slice A1 t.atoms.length c1] := hy.bx (Bx.hold hBt_3) (by first | omega | (simp; done) | (simp; omega)) (by simp; omega)
    have hFt_4 : ∀ oo, w4.frozen? ⟨w1.heap.size, oo, none⟩ = false := fun oo => (hy.frozen (by first | omega | (simp; done) | (simp; omega)) (by simp; omega)).trans ((fz_hold hFt_3) oo)
    clear hBres_3 hFres_3 hBt_3 hFt_3
    replace htb := Tb.turn (Tb.ext htb Ext.auto) hy (fun x hx => by simp at hx; omega)
    clear hy
    have hc : v = 0 ∨ v = 1 ∨ v = 2 ∨ v = 3 := by omega
    clear lv uv
    rcases hc with rfl | rfl | rfl | rfl
    · 
      obtain ⟨R, hRl, hG, hRw⟩ := htb.raw
      have hR12 : R.length ≤ 12 := by omega
      clear hRl
      have htop := htb.top
      have hup := htb.up
      have hGl : ∀ q, Value.ownBlock (.slice A1 t.atoms.length c1) = some q → w0.heap.size ≤ q := fun q hq => (htop q hq).1
      have hneR : ∀ q, Value.ownBlock (.slice A1 t.atoms.length c1) = some q → q ≠ w.heap.size := fun q hq => by have := htop q hq; omega
      have hneT : ∀ q, Value.ownBlock (.slice A1 t.atoms.length c1) = some q → q ≠ w1.heap.size := fun q hq => by have := htop q hq; omega
      obtain ⟨b, off, v1, v2, rfl, hbo, hk0, hv1, hv2, e0, e1, e2, e3⟩ := raw_at hG hRw (i := 0) (by omega)
      simp only [Nat.zero_mul, Nat.add_zero] at e0 e1 e2 e3
      obtain ⟨B1, d1, rfl, -, -⟩ := hv1.form
      obtain ⟨B2, d2, rfl, -, -⟩ := hv2.form
      have hlt0 : 0 < t.atoms.length := by omega
      have hbe := blk_el t.atoms 0 hlt0
      have hb1 := hbo.2
      obtain ⟨x, hx_⟩ : ∃ x, x = t.atoms[0] := ⟨_, rfl⟩
      rw [← hx_] at hk0 hv1 hv2 e0 e1 e2 e3 hbe
      clear hx_
      have yt : w1.heap.size < w4.heap.size := by omega
      have xt0 : w4.cell? ⟨w1.heap.size, 0, none⟩ = some (.slice (some ⟨b, off, none⟩) t.atoms.length c1) := hBt_4 0 _ rfl
      have ft := hFt_4
      go_upto_region 6 with fail
      have hS : ∀ w', Ext w4 w' → ∀ bb oo, bb < w4.heap.size → w'.cell? ⟨bb, oo, none⟩ = w4.cell? ⟨bb, oo, none⟩ := fun w' hx bb oo hb => hx.cell hb
      refine wp_region_plan (fun w' => Ext w4 w') 7 (.float 0 (.float 1 (.float 2 (.float 3 (.float 4 (.float 5 (.chain 6 (.tail 7)))))))) (by kernel_rfl) (by kernel_rfl) (Ext.refl _).drew ?_
      iterate 6 ((refine Plan.float_step (v := ?_) rfl (by rfl) (fun _ _ _ h => h) (fun w' hSw => ?_) ?_; rotate_left; · (go_simp; try with_reducible rfl)); (try simp only [Act.put, List.setIfInBounds_toArray, List.set_cons_zero, List.set_cons_succ]))
      clear xt0 yt
      clear ft
      refine Plan.chain_step rfl (fun K hK => ?_)
      go_simp
      refine hK.out _ _ (show Ext w4 (w4.drew.alloc (.cells #[.int .i64 x.kind, .int .i64 x.k, .slice B1 x.x.monos.length d1, .slice B2 x.y.monos.length d2] 30)) from Ext.auto) ?_
      clear hK
      (try simp only [Act.put, List.setIfInBounds_toArray, List.set_cons_zero, List.set_cons_succ])
      refine Plan.tail_step ?_
      simp only [List.drop_succ_cons, List.drop_zero]
      clear hS e0 e1 e2 e3
      have hdr : Ext w4 w4.drew := (Ext.refl _).drew
      have hR5 := hR4.ext hdr
      have hT5 : Turn [rb] w w4.drew := hT4.call hdr
      have hs5 := hdr.size
      have hRw_ := RawOf.turn hRw (Turn.of_ext hdr []) (fun b hb => ⟨by omega, by simp⟩)
      have hv1_ := hv1.keep (fun b oo hb => hdr.cell (by omega)) (fun _ h => h)
      have hv2_ := hv2.keep (fun b oo hb => hdr.cell (by omega)) (fun _ h => h)
      replace hG := Gro.ext hG hdr
      have hBres_5 := hdr.bx hBres_4 (by omega)
      have hFres_5 : ∀ oo, w4.drew.frozen? ⟨w.heap.size, oo, none⟩ = false := fun oo => (hdr.frozen (by omega)).trans (hFres_4 oo)
      have hBt_5 := hdr.bx hBt_4 (by omega)
      have hFt_5 : ∀ oo, w4.drew.frozen? ⟨w1.heap.size, oo, none⟩ = false := fun oo => (hdr.frozen (by omega)).trans (hFt_4 oo)
      replace hup := Nat.le_trans hup hdr.size
      clear htb hRw hv1 hv2 hBres_4 hFres_4 hBt_4 hFt_4
      rw [show (w4.alloc (.cells #[.int .i64 x.kind, .int .i64 x.k, .slice B1 x.x.monos.length d1, .slice B2 x.y.monos.length d2] 30)).drew = w4.drew.alloc (.cells #[.int .i64 x.kind, .int .i64 x.k, .slice B1 x.x.monos.length d1, .slice B2 x.y.monos.length d2] 30) from rfl, show w4.heap.size = w4.drew.heap.size from rfl]
      generalize w4.drew = w5 at *
      have hRw := hRw_
      have hv1 := hv1_
      have hv2 := hv2_
      clear hRw_ hv1_ hv2_ hdr
      obtain ⟨wa, Fs, xs, h00, hA⟩ := id hG
      have hAf := hA.flat
      have hRn := hRw.snoc (a := x) (r := (⟨[.int .i64 x.kind, .int .i64 x.k, .slice B1 x.x.monos.length d1, .slice B2 x.y.monos.length d2], rfl, (by repeat (first | (exact fun _ h => absurd h (List.not_mem_nil)) | (refine List.forall_mem_cons.2 ⟨rfl, ?_⟩)))⟩ : Raw 3)) (⟨_, _, rfl, hk0, hv1, hv2⟩)
      refine wpList_append_push2 (w0 := wa) (wr := w5) rfl _ _ 23 rfl i0a _ 64 Try.underlying23 HIa.out HZ0a.out HZ1a.out HZ2a.out rfl (by decide) hA.app rfl (⟨[.int .i64 x.kind, .int .i64 x.k, .slice B1 x.x.monos.length d1, .slice B2 x.y.monos.length d2], rfl, (by repeat (first | (exact fun _ h => absurd h (List.not_mem_nil)) | (refine List.forall_mem_cons.2 ⟨rfl, ?_⟩)))⟩ : Raw 3) #[.int .i64 x.kind, .int .i64 x.k, .slice B1 x.x.monos.length d1, .slice B2 x.y.monos.length d2] 30 [] _ rfl Ext.auto ⟨rfl, rfl⟩ (Fr.nil _ _) (by repeat (first | (exact fun _ h => absurd h (List.not_mem_nil)) | (refine List.forall_mem_cons.2 ⟨rfl, ?_⟩))) (by unfold maxLen; omega) (by omega) ?_
      intro v' w9 xs' hA9 hg9 hb9
      have hG9 := Gro.pushG (lo := w0.heap.size) h00 hGl (by simp; omega) hAf hA9 hb9
      have hT9 := Turn.of_grown (show Ext w5 _ from Ext.auto) hg9
      have hz9 := hg9.size
      have hsz9 : w5.heap.size ≤ w9.heap.size := by simp at hz9; omega
      obtain ⟨R9, hR9⟩ : ∃ R9 : List (Raw 3), R9 = R ++ [(⟨[.int .i64 x.kind, .int .i64 x.k, .slice B1 x.x.monos.length d1, .slice B2 x.y.monos.length d2], rfl, (by repeat (first | (exact fun _ h => absurd h (List.not_mem_nil)) | (refine List.forall_mem_cons.2 ⟨rfl, ?_⟩)))⟩ : Raw 3)] := ⟨_, rfl⟩
      rw [← hR9] at hG9 hRn
      clear hR9
      obtain ⟨A9, c9, rfl, -, -⟩ := hG9.form
      have hBt9 : Bx w9 (w1.heap.size) [.slice (some ⟨b, off, none⟩) t.atoms.length c1] := (show Bx (w5.alloc (.cells #[.int .i64 x.kind, .int .i64 x.k, .slice B1 x.x.monos.length d1, .slice B2 x.y.monos.length d2] 30)) _ _ from Bx.alloc hBt_5 (by omega) _ _).grown hg9 (by simp; omega) (fun q => hneT _ q.symm rfl)
      have hFt9 : ∀ oo, w9.frozen? ⟨w1.heap.size, oo, none⟩ = false := fz_grown (show ∀ oo, (w5.alloc (.cells #[.int .i64 x.kind, .int .i64 x.k, .slice B1 x.x.monos.length d1, .slice B2 x.y.monos.length d2] 30)).frozen? ⟨w1.heap.size, oo, none⟩ = false from fz_alloc hFt_5 (by omega) _) hg9 (by simp; omega) (fun q => hneT _ q.symm rfl)
      have hBres9 : Bx w9 (w.heap.size) [.slice none 0 0] := (show Bx (w5.alloc (.cells #[.int .i64 x.kind, .int .i64 x.k, .slice B1 x.x.monos.length d1, .slice B2 x.y.monos.length d2] 30)) _ _ from Bx.alloc hBres_5 (by omega) _ _).grown hg9 (by simp; omega) (fun q => hneR _ q.symm rfl)
      have hFres9 : ∀ oo, w9.frozen? ⟨w.heap.size, oo, none⟩ = false := fz_grown (show ∀ oo, (w5.alloc (.cells #[.int .i64 x.kind, .int .i64 x.k, .slice B1 x.x.monos.length d1, .slice B2 x.y.monos.length d2] 30)).frozen? ⟨w.heap.size, oo, none⟩ = false from fz_alloc hFres_5 (by omega) _) hg9 (by simp; omega) (fun q => hneR _ q.symm rfl)
      have yt : w1.heap.size < w9.heap.size := by omega
      have xt0 := hBt9 0 _ rfl
      have ft := hFt9
      go_upto_region 11 with fail
      clear xt0 yt ft
      have hRn9 := RawOf.turn hRn hT9 (fun b hb => ⟨by omega, fun hm => by
        simp at hm
        first | exact hb.2 hm | (rcases hb with hb | hb <;> first | exact hb.2 hm | (have := htop _ hm; omega))⟩)
      have hne9 : ∀ q, Value.ownBlock (.slice A9 R9.length c9) = some q → q ≠ w.heap.size ∧ q ≠ w1.heap.size := fun q hq => by
        rcases hb9 with h | h
        · rw [h] at hq; exact ⟨hneR q hq, hneT q hq⟩
        · rw [h] at hq; injection hq with hq; simp at hq; constructor <;> omega
      have hRR := hR5.turn hT9 (fun q hq => by have := hGl q (by simpa using hq); omega)
      have hTT : Turn [rb] w w9 := hT5.trans hT9 (fun q hq => .inr (by have := hGl q (by simpa using hq); omega))
      have hne9R := fun q hq => (hne9 q hq).1
      have hne9T := fun q hq => (hne9 q hq).2
      clear hA9 hg9 hb9 hT9 hz9 hA hAf hG hRw hRn hne9
      have hBt_6 : Bx (w9.setCell ⟨w1.heap.size, 0, none⟩ (.slice A9 R9.length c9)) (w1.heap.size) [.slice A9 R9.length c9] := by have := Bx.put hBt9 (j := 0) (by simp) (.slice A9 R9.length c9); simpa using this
      have hFt_6 : ∀ oo, (w9.setCell ⟨w1.heap.size, 0, none⟩ (.slice A9 R9.length c9)).frozen? ⟨w1.heap.size, oo, none⟩ = false := fz_set hFt9 _ _
      have hBres_6 : Bx (w9.setCell ⟨w1.heap.size, 0, none⟩ (.slice A9 R9.length c9)) (w.heap.size) [.slice none 0 0] := Bx.setCell hBres9 (by simp; omega) _
      have hFres_6 : ∀ oo, (w9.setCell ⟨w1.heap.size, 0, none⟩ (.slice A9 R9.length c9)).frozen? ⟨w.heap.size, oo, none⟩ = false := fz_set hFres9 _ _
      have hR6 : Rdr rb base _ (w9.setCell ⟨w1.heap.size, 0, none⟩ (.slice A9 R9.length c9)) := Rdr.hold hRR
      have hT6 : Turn [rb] w (w9.setCell ⟨w1.heap.size, 0, none⟩ (.slice A9 R9.length c9)) := Turn.hold hTT
      have hG8 := Gro.set hG9 (p := ⟨w1.heap.size, 0, none⟩) hne9T (.slice A9 R9.length c9)
      have hRn8 := RawOf.turn (F := [w1.heap.size]) hRn9 (Turn.hold (Turn.refl _ _) : Turn [w1.heap.size] w9 (w9.setCell ⟨w1.heap.size, 0, none⟩ (.slice A9 R9.length c9))) (fun b hb => ⟨by omega, by simp; omega⟩)
      have hs8 : (w9.setCell ⟨w1.heap.size, 0, none⟩ (.slice A9 R9.length c9)).heap.size = w9.heap.size := by simp
      clear hBt9 hFt9 hBres9 hFres9 hRR hTT hG9 hRn9
      generalize (w9.setCell ⟨w1.heap.size, 0, none⟩ (.slice A9 R9.length c9)) = w6 at *
      have yt : w1.heap.size < w6.heap.size := by omega
      have xt0 : w6.cell? ⟨w1.heap.size, 0, none⟩ = some (.slice A9 R9.length c9) := hBt_6 0 _ rfl
      have ft := hFt_6
      have yres : w.heap.size < w6.heap.size := by omega
      have xres0 : w6.cell? ⟨w.heap.size, 0, none⟩ = some (.slice none 0 0) := hBres_6 0 _ rfl
      have fres := hFres_6
      go_wp2
      refine bodyPost_ret (v := .agg #[.slice A9 R9.length c9]) (by simp [results, Try.results24, go_sem, xres0]) rfl ⟨⟨(t.atoms ++ [x]), A9, c9, by rw [← hRn8.1], ?_, by simp, by rw [List.length_append]; simp; omega, by rw [blk_snoc]; first | omega | (have : Bulk.blk (⟨1, 9, ⟨[]⟩, ⟨[]⟩⟩ : TabAtom) ≤ 10 := (by decide); omega) | (have : Bulk.blk (⟨4, 4, polK 50, ⟨[]⟩⟩ : TabAtom) ≤ 10 := (by decide); omega)⟩, (Rdr.hold hR6).up (by omega), Turn.hold hT6⟩
      rw [← hRn8.1]
      exact GlO.down (lo := w0.heap.size) (Gro.back rfl (Gro.set hG8 (p := ⟨w.heap.size, 0, none⟩) hne9R _) (RawOf.turn (F := [w.heap.size]) hRn8 (Turn.hold (Turn.refl _ _)) (fun b hb => ⟨by omega, by simp; omega⟩)) (fun b hb => ⟨by omega, by simp; omega⟩)) (by omega)
    · 
      have hs0_ := htb.up
      have yt : w1.heap.size < w4.heap.size := by omega
      have xt0 : w4.cell? ⟨w1.heap.size, 0, none⟩ = some (.slice A1 t.atoms.length c1) := hBt_4 0 _ rfl
      have ft := hFt_4
      go_upto_region 8 with fail
      have hS : ∀ w', Ext w4 w' → ∀ bb oo, bb < w4.heap.size → w'.cell? ⟨bb, oo, none⟩ = w4.cell? ⟨bb, oo, none⟩ := fun w' hx bb oo hb => hx.cell hb
      refine wp_region_plan (fun w' => Ext w4 w') 5 (.float 0 (.float 1 (.chain 2 (.float 3 (.chain 4 (.tail 5)))))) (by kernel_rfl) (by kernel_rfl) (Ext.refl _).drew ?_
      iterate 2 ((refine Plan.float_step (v := ?_) rfl (by rfl) (fun _ _ _ h => h) (fun w' hSw => ?_) ?_; rotate_left; · (go_simp; try with_reducible rfl)); (try simp only [Act.put, List.setIfInBounds_toArray, List.set_cons_zero, List.set_cons_succ]))
      clear xt0 yt
      clear ft
      refine Plan.chain_step rfl (fun K hK => ?_)
      go_simp
      refine (specPolAtom_any 50 _ (by decide) (by decide)).mono ?_
      rintro e w5 ⟨r, F1, rfl, hO, hF, hy⟩
      have hs5 := hy.size
      try simp at hs5
      have hR5 := (Rdr.hold hR4).ext hy
      have hT5 : Turn [rb] w w5 := (Turn.hold hT4).call hy
      have hBres_5 : Bx w5 (w.heap.size) [.slice none 0 0] := hy.bx (Bx.hold hBres_4) (by first | omega | (simp; done) | (simp; omega))
      have hFres_5 : ∀ oo, w5.frozen? ⟨w.heap.size, oo, none⟩ = false := fun oo => (hy.frozen (by first | omega | (simp; done) | (simp; omega))).trans ((fz_hold hFres_4) oo)
      have hBt_5 : Bx w5 (w1.heap.size) [.slice A1 t.atoms.length c1] := hy.bx (Bx.hold hBt_4) (by first | omega | (simp; done) | (simp; omega))
      have hFt_5 : ∀ oo, w5.frozen? ⟨w1.heap.size, oo, none⟩ = false := fun oo => (hy.frozen (by first | omega | (simp; done) | (simp; omega))).trans ((fz_hold hFt_4) oo)
      clear hBres_4 hFres_4 hBt_4 hFt_4
      replace htb := Tb.ext htb (Ext.trans Ext.auto hy)
      have hE_ : Ext w4 w5 := Ext.trans Ext.auto hy
      clear hy
      have hS1 := GlB.of_own hO hF
      clear hO hF
      obtain ⟨B1, d1, rfl, -, -⟩ := hS1.sl.form
      have hSx : Ext w4 w5 := hE_
      refine hK.out _ _ hSx ?_
      clear hK
      (try simp only [Act.put, List.setIfInBounds_toArray, List.set_cons_zero, List.set_cons_succ])
      (refine Plan.float_step (v := ?_) rfl (by rfl) (fun _ _ _ h => h) (fun w' hSw => ?_) ?_; rotate_left; · (go_simp; try with_reducible rfl)); (try simp only [Act.put, List.setIfInBounds_toArray, List.set_cons_zero, List.set_cons_succ])
      refine Plan.chain_step rfl (fun K hK => ?_)
      go_simp
      refine hK.out _ _ (show Ext w4 (w5.alloc (.cells #[.int .i64 4, .int .i64 4, .slice B1 (polK 50).monos.length d1, .slice none 0 0] 30)) from Ext.trans hSx Ext.auto) ?_
      clear hK
      (try simp only [Act.put, List.setIfInBounds_toArray, List.set_cons_zero, List.set_cons_succ])
      refine Plan.tail_step ?_
      simp only [List.drop_succ_cons, List.drop_zero]
      clear hS
      obtain ⟨R, hRl, hG, hRw⟩ := htb.raw
      have hR12 : R.length ≤ 12 := by omega
      clear hRl
      have htop := htb.top
      have hup := htb.up
      have hGl : ∀ q, Value.ownBlock (.slice A1 t.atoms.length c1) = some q → w0.heap.size ≤ q := fun q hq => (htop q hq).1
      have hneR : ∀ q, Value.ownBlock (.slice A1 t.atoms.length c1) = some q → q ≠ w.heap.size := fun q hq => by have := htop q hq; omega
      have hneT : ∀ q, Value.ownBlock (.slice A1 t.atoms.length c1) = some q → q ≠ w1.heap.size := fun q hq => by have := htop q hq; omega
      replace hRw := hRw.keep (S' := fun b => ((w0.heap.size ≤ b ∧ b < w1.heap.size) ∧ Value.ownBlock (.slice A1 t.atoms.length c1) ≠ some b) ∨ (w4.heap.size ≤ b ∧ b < w5.heap.size)) (fun _ _ _ => rfl) (fun _ h => .inl h)
      obtain ⟨wa, Fs, xs, h00, hA⟩ := id hG
      have hAf := hA.flat
      have hRn := hRw.snoc (a := ⟨4, 4, polK 50, ⟨[]⟩⟩) (r := (⟨[.int .i64 4, .int .i64 4, .slice B1 (polK 50).monos.length d1, .slice none 0 0], rfl, (by repeat (first | (exact fun _ h => absurd h (List.not_mem_nil)) | (refine List.forall_mem_cons.2 ⟨rfl, ?_⟩)))⟩ : Raw 3)) (⟨_, _, rfl, ⟨(show Fits 4 by unfold Fits; omega), (show Fits 4 by unfold Fits; omega)⟩, hS1.1.keep (fun _ _ _ => rfl) (fun b hb => .inr hb), Sl.nil _ _⟩)
      refine wpList_append_push2 (w0 := wa) (wr := w5) rfl _ _ 23 rfl i0a _ 64 Try.underlying23 HIa.out HZ0a.out HZ1a.out HZ2a.out rfl (by decide) hA.app rfl (⟨[.int .i64 4, .int .i64 4, .slice B1 (polK 50).monos.length d1, .slice none 0 0], rfl, (by repeat (first | (exact fun _ h => absurd h (List.not_mem_nil)) | (refine List.forall_mem_cons.2 ⟨rfl, ?_⟩)))⟩ : Raw 3) #[.int .i64 4, .int .i64 4, .slice B1 (polK 50).monos.length d1, .slice none 0 0] 30 [] _ rfl Ext.auto ⟨rfl, rfl⟩ (Fr.nil _ _) (by repeat (first | (exact fun _ h => absurd h (List.not_mem_nil)) | (refine List.forall_mem_cons.2 ⟨rfl, ?_⟩))) (by unfold maxLen; omega) (by omega) ?_
      intro v' w9 xs' hA9 hg9 hb9
      have hG9 := Gro.pushG (lo := w0.heap.size) h00 hGl (by simp; omega) hAf hA9 hb9
      have hT9 := Turn.of_grown (show Ext w5 _ from Ext.auto) hg9
      have hz9 := hg9.size
      have hsz9 : w5.heap.size ≤ w9.heap.size := by simp at hz9; omega
      obtain ⟨R9, hR9⟩ : ∃ R9 : List (Raw 3), R9 = R ++ [(⟨[.int .i64 4, .int .i64 4, .slice B1 (polK 50).monos.length d1, .slice none 0 0], rfl, (by repeat (first | (exact fun _ h => absurd h (List.not_mem_nil)) | (refine List.forall_mem_cons.2 ⟨rfl, ?_⟩)))⟩ : Raw 3)] := ⟨_, rfl⟩
      rw [← hR9] at hG9 hRn
      clear hR9
      obtain ⟨A9, c9, rfl, -, -⟩ := hG9.form
      have hBt9 : Bx w9 (w1.heap.size) [.slice A1 t.atoms.length c1] := (show Bx (w5.alloc (.cells #[.int .i64 4, .int .i64 4, .slice B1 (polK 50).monos.length d1, .slice none 0 0] 30)) _ _ from Bx.alloc hBt_5 (by omega) _ _).grown hg9 (by simp; omega) (fun q => hneT _ q.symm rfl)
      have hFt9 : ∀ oo, w9.frozen? ⟨w1.heap.size, oo, none⟩ = false := fz_grown (show ∀ oo, (w5.alloc (.cells #[.int .i64 4, .int .i64 4, .slice B1 (polK 50).monos.length d1, .slice none 0 0] 30)).frozen? ⟨w1.heap.size, oo, none⟩ = false from fz_alloc hFt_5 (by omega) _) hg9 (by simp; omega) (fun q => hneT _ q.symm rfl)
      have hBres9 : Bx w9 (w.heap.size) [.slice none 0 0] := (show Bx (w5.alloc (.cells #[.int .i64 4, .int .i64 4, .slice B1 (polK 50).monos.length d1, .slice none 0 0] 30)) _ _ from Bx.alloc hBres_5 (by omega) _ _).grown hg9 (by simp; omega) (fun q => hneR _ q.symm rfl)
      have hFres9 : ∀ oo, w9.frozen? ⟨w.heap.size, oo, none⟩ = false := fz_grown (show ∀ oo, (w5.alloc (.cells #[.int .i64 4, .int .i64 4, .slice B1 (polK 50).monos.length d1, .slice none 0 0] 30)).frozen? ⟨w.heap.size, oo, none⟩ = false from fz_alloc hFres_5 (by omega) _) hg9 (by simp; omega) (fun q => hneR _ q.symm rfl)
      have yt : w1.heap.size < w9.heap.size := by omega
      have xt0 := hBt9 0 _ rfl
      have ft := hFt9
      go_upto_region 11 with fail
      clear xt0 yt ft
      have hRn9 := RawOf.turn hRn hT9 (fun b hb => ⟨by omega, fun hm => by
        simp at hm
        first | exact hb.2 hm | (rcases hb with hb | hb <;> first | exact hb.2 hm | (have := htop _ hm; omega))⟩)
      have hne9 : ∀ q, Value.ownBlock (.slice A9 R9.length c9) = some q → q ≠ w.heap.size ∧ q ≠ w1.heap.size := fun q hq => by
        rcases hb9 with h | h
        · rw [h] at hq; exact ⟨hneR q hq, hneT q hq⟩
        · rw [h] at hq; injection hq with hq; simp at hq; constructor <;> omega
      have hRR := hR5.turn hT9 (fun q hq => by have := hGl q (by simpa using hq); omega)
      have hTT : Turn [rb] w w9 := hT5.trans hT9 (fun q hq => .inr (by have := hGl q (by simpa using hq); omega))
      have hne9R := fun q hq => (hne9 q hq).1
      have hne9T := fun q hq => (hne9 q hq).2
      clear hA9 hg9 hb9 hT9 hz9 hA hAf hG hRw hRn hne9
      have hBt_6 : Bx (w9.setCell ⟨w1.heap.size, 0, none⟩ (.slice A9 R9.length c9)) (w1.heap.size) [.slice A9 R9.length c9] := by have := Bx.put hBt9 (j := 0) (by simp) (.slice A9 R9.length c9); simpa using this
      have hFt_6 : ∀ oo, (w9.setCell ⟨w1.heap.size, 0, none⟩ (.slice A9 R9.length c9)).frozen? ⟨w1.heap.size, oo, none⟩ = false := fz_set hFt9 _ _
      have hBres_6 : Bx (w9.setCell ⟨w1.heap.size, 0, none⟩ (.slice A9 R9.length c9)) (w.heap.size) [.slice none 0 0] := Bx.setCell hBres9 (by simp; omega) _
      have hFres_6 : ∀ oo, (w9.setCell ⟨w1.heap.size, 0, none⟩ (.slice A9 R9.length c9)).frozen? ⟨w.heap.size, oo, none⟩ = false := fz_set hFres9 _ _
      have hR6 : Rdr rb base _ (w9.setCell ⟨w1.heap.size, 0, none⟩ (.slice A9 R9.length c9)) := Rdr.hold hRR
      have hT6 : Turn [rb] w (w9.setCell ⟨w1.heap.size, 0, none⟩ (.slice A9 R9.length c9)) := Turn.hold hTT
      have hG8 := Gro.set hG9 (p := ⟨w1.heap.size, 0, none⟩) hne9T (.slice A9 R9.length c9)
      have hRn8 := RawOf.turn (F := [w1.heap.size]) hRn9 (Turn.hold (Turn.refl _ _) : Turn [w1.heap.size] w9 (w9.setCell ⟨w1.heap.size, 0, none⟩ (.slice A9 R9.length c9))) (fun b hb => ⟨by omega, by simp; omega⟩)
      have hs8 : (w9.setCell ⟨w1.heap.size, 0, none⟩ (.slice A9 R9.length c9)).heap.size = w9.heap.size := by simp
      clear hBt9 hFt9 hBres9 hFres9 hRR hTT hG9 hRn9
      generalize (w9.setCell ⟨w1.heap.size, 0, none⟩ (.slice A9 R9.length c9)) = w6 at *
      have yt : w1.heap.size < w6.heap.size := by omega
      have xt0 : w6.cell? ⟨w1.heap.size, 0, none⟩ = some (.slice A9 R9.length c9) := hBt_6 0 _ rfl
      have ft := hFt_6
      have yres : w.heap.size < w6.heap.size := by omega
      have xres0 : w6.cell? ⟨w.heap.size, 0, none⟩ = some (.slice none 0 0) := hBres_6 0 _ rfl
      have fres := hFres_6
      go_wp2
      refine bodyPost_ret (v := .agg #[.slice A9 R9.length c9]) (by simp [results, Try.results24, go_sem, xres0]) rfl ⟨⟨(t.atoms ++ [⟨4, 4, polK 50, ⟨[]⟩⟩]), A9, c9, by rw [← hRn8.1], ?_, by simp, by rw [List.length_append]; simp; omega, by rw [blk_snoc]; first | omega | (have : Bulk.blk (⟨1, 9, ⟨[]⟩, ⟨[]⟩⟩ : TabAtom) ≤ 10 := (by decide); omega) | (have : Bulk.blk (⟨4, 4, polK 50, ⟨[]⟩⟩ : TabAtom) ≤ 10 := (by decide); omega)⟩, (Rdr.hold hR6).up (by omega), Turn.hold hT6⟩
      rw [← hRn8.1]
      exact GlO.down (lo := w0.heap.size) (Gro.back rfl (Gro.set hG8 (p := ⟨w.heap.size, 0, none⟩) hne9R _) (RawOf.turn (F := [w.heap.size]) hRn8 (Turn.hold (Turn.refl _ _)) (fun b hb => ⟨by omega, by simp; omega⟩)) (fun b hb => ⟨by omega, by simp; omega⟩)) (by omega)
    · 
      obtain ⟨b, off, rfl⟩ := htb.some
      have hlt0 : 0 < t.atoms.length := by omega
      have yt : w1.heap.size < w4.heap.size := by omega
      have xt0 : w4.cell? ⟨w1.heap.size, 0, none⟩ = some (.slice (some ⟨b, off, none⟩) t.atoms.length c1) := hBt_4 0 _ rfl
      have ft := hFt_4
      go_upto_region 10 with fail
      have hSt : ∀ w', Turn [rb] w4 w' → ∀ oo, w'.cell? ⟨w1.heap.size, oo, none⟩ = w4.cell? ⟨w1.heap.size, oo, none⟩ := fun w' hx oo => hx.cell (by omega) (by simp; omega)
      refine wp_region_plan2 (fun w' => Turn [rb] w4 w') 7 (.float 0 (.float 1 (.float 3 (.alt 2 (.chain 4 (.float 5 (.chain 6 (.tail 7)))) (.alt 4 (.chain 2 (.float 5 (.chain 6 (.tail 7)))) (.stop)))))) (by kernel_rfl) (by kernel_rfl) (Turn.of_ext (Ext.refl _).drew _) ?_
      have hC : Turn [rb] w4 w4.drew := Turn.of_ext (Ext.refl _).drew _
      have hR := Rdr.hold (w' := w4.drew) hR4
      replace htb := Tb.ext htb (Ext.refl _).drew
      have hsz : w4.heap.size ≤ w4.drew.heap.size := Nat.le_refl _
      generalize w4.drew = wz at *
      repeat' (first
        | with_reducible refine Plan2.alt_step ?_ ?_
        | with_reducible exact Plan2.stop_pre
        | ((with_reducible refine Plan2.float_pre ?_); (refine Plan2.float_step (v := ?_) rfl (by rfl) (fun _ _ _ h => h) (fun w' hSw => ?_) ?_; rotate_left; · (go_simp; try with_reducible rfl)))
        | ((with_reducible refine Plan2.chain_pre ?_)
           refine Plan2.chain_step rfl (fun K hK => ?_)
           go_simp
           first
             | (have eV0 := eV
                clear eV0
                with_reducible refine hK.out _ _ hC ?_
                have hy : Turn [rb] wz wz := Turn.refl _ _
                have hb2 := (show ∀ zz ∈ ([0, 5, 2] : List Int), 0 ≤ zz ∧ zz < 6 by intro zz hzz; simp at hzz; omega) _ (List.getElem_mem (l := [0, 5, 2]) (n := V) hV)
                generalize ([0, 5, 2] : List Int)[V] = kd at *
                have lkd := hb2.1
                have ukd := hb2.2
                clear hb2 hBv z0 z1
                obtain ⟨wn, hwn⟩ : ∃ wn : World, wn = wz := ⟨_, rfl⟩
                subst hwn)
             | (refine (pick_any rb base _ _ (Rdr.hold hR) (by omega) 3 (by omega) (by omega)).mono ?_
                rintro e wn ⟨⟨iv, rfl, li, qi⟩, hR, hy⟩
                obtain ⟨V, rfl⟩ := Int.eq_ofNat_of_zero_le li
                have hV : V < 3 := by omega
                clear qi
                have z0 : (0 : Int) ≤ (V : Int) := by omega
                have z1 : (V : Int) < 3 := by omega)
             | (have hC : Turn [rb] w4 (wz.alloc (.cells #[.int .i64 0, .int .i64 5, .int .i64 2] 3)) := Turn.hold hC
                with_reducible refine hK.out _ _ hC ?_
                have hy : Turn [rb] wz (wz.alloc (.cells #[.int .i64 0, .int .i64 5, .int .i64 2] 3)) := Turn.hold (Turn.refl _ _)
                have hR := Rdr.hold (w' := (wz.alloc (.cells #[.int .i64 0, .int .i64 5, .int .i64 2] 3))) hR
                have hz : wz.heap.size < (wz.alloc (.cells #[.int .i64 0, .int .i64 5, .int .i64 2] 3)).heap.size := by simp
                have hBv : Bx (wz.alloc (.cells #[.int .i64 0, .int .i64 5, .int .i64 2] 3)) wz.heap.size [.int .i64 0, .int .i64 5, .int .i64 2] := Bx.new wz #[.int .i64 0, .int .i64 5, .int .i64 2] 3
                have hFv : ∀ oo, (wz.alloc (.cells #[.int .i64 0, .int .i64 5, .int .i64 2] 3)).frozen? ⟨wz.heap.size, oo, none⟩ = false := fz_new wz #[.int .i64 0, .int .i64 5, .int .i64 2] 3 rfl
                generalize (wz.alloc (.cells #[.int .i64 0, .int .i64 5, .int .i64 2] 3)) = wn at *
                obtain ⟨qv, hqv⟩ : ∃ q, wz.heap.size = q := ⟨_, rfl⟩
                rw [hqv] at hBv hFv ⊢)
           have hsz := hy.size
           try replace htb := Tb.turn htb hy (fun x hx => by simp at hx; omega)
           try replace hBv := hy.bx hBv (by omega) (by simp; omega)
           try replace hFv := fun oo => (hy.frozen (by omega) (by simp; omega)).trans (hFv oo)
           try replace hC := hC.trans hy
           try refine hK.out _ _ hC ?_
           clear hK hy
           obtain ⟨wz, hwz⟩ : ∃ wz : World, wz = wn := ⟨_, rfl⟩
           subst hwz
           try clear eV yv
           try (have hBa : Bx wz qv (List.map (Value.int .i64) [0, 5, 2]) := hBv; have eV := hBa.at_ (v := V) hV; have yv : qv < wz.heap.size := (by omega); clear hBa)
           (try simp only [Act.put, List.setIfInBounds_toArray, List.set_cons_zero, List.set_cons_succ])))
      all_goals
        refine Plan2.tail_step ?_
        simp only [List.drop_succ_cons, List.drop_zero]
        clear hSt
        have h0 := htb.cell0
        obtain ⟨hb0, ⟨k0, e0⟩, fb⟩ := h0
        have hb1 := htb.up
        have yb : b < wz.heap.size := by omega
        clear xt0 yt ft
        go_upto_region 11 with fail
        clear e0 fb yb
        have hBt_5 := Bx.setCell (hC.bx hBt_4 (by omega) (by simp; omega)) (p := ⟨b, off, none⟩) (by simp; omega) (.int .i64 kd)
        have hFt_5 : ∀ oo, (wz.setCell ⟨b, off, none⟩ (.int .i64 kd)).frozen? ⟨w1.heap.size, oo, none⟩ = false := fz_set (fun oo => (hC.frozen (by omega) (by simp; omega)).trans (hFt_4 oo)) _ _
        have hBres_5 := Bx.setCell (hC.bx hBres_4 (by omega) (by simp; omega)) (p := ⟨b, off, none⟩) (by simp; omega) (.int .i64 kd)
        have hFres_5 : ∀ oo, (wz.setCell ⟨b, off, none⟩ (.int .i64 kd)).frozen? ⟨w.heap.size, oo, none⟩ = false := fz_set (fun oo => (hC.frozen (by omega) (by simp; omega)).trans (hFres_4 oo)) _ _
        have hR5 := Rdr.hold (w' := (wz.setCell ⟨b, off, none⟩ (.int .i64 kd))) hR
        have hT5 : Turn [rb] w (wz.setCell ⟨b, off, none⟩ (.int .i64 kd)) := Turn.set (hT4.trans hC) (.inr (by show w.heap.size ≤ b; omega)) _
        have hgs := htb.setKind (kd := kd) (by unfold Fits; omega) hlt0
        have hbk2 := blk_set0 t.atoms t.atoms[0] ⟨kd, t.atoms[0].k, t.atoms[0].x, t.atoms[0].y⟩ (List.getElem?_eq_getElem hlt0) rfl
        have hs5 : wz.heap.size ≤ (wz.setCell ⟨b, off, none⟩ (.int .i64 kd)).heap.size := by simp
        clear htb hC
        generalize (wz.setCell ⟨b, off, none⟩ (.int .i64 kd)) = w5 at *
        generalize hL_ : t.atoms.set 0 ⟨kd, t.atoms[0].k, t.atoms[0].x, t.atoms[0].y⟩ = L at *
        have hLl := hide (show L.length = t.atoms.length by rw [← hL_]; simp)
        clear hL_
        have yt : w1.heap.size < w5.heap.size := by omega
        have xt0 : w5.cell? ⟨w1.heap.size, 0, none⟩ = some (.slice (some ⟨b, off, none⟩) t.atoms.length c1) := hBt_5 0 _ rfl
        have ft := hFt_5
        have yres : w.heap.size < w5.heap.size := by omega
        have xres0 : w5.cell? ⟨w.heap.size, 0, none⟩ = some (.slice none 0 0) := hBres_5 0 _ rfl
        have fres := hFres_5
        go_wp2
        refine bodyPost_ret (v := .agg #[.slice (some ⟨b, off, none⟩) t.atoms.length c1]) (by simp [results, Try.results24, go_sem, xres0]) rfl ⟨⟨L, (some ⟨b, off, none⟩), c1, by rw [hLl.out], ?_, by rw [hLl.out]; exact hlt0, by rw [hLl.out]; omega, by rw [hbk2]; omega⟩, (Rdr.hold hR5).up (by omega), Turn.hold hT5⟩
        rw [hLl.out]
        exact ((GlB.turn (F := [w.heap.size]) hgs (Turn.hold (Turn.refl _ _)) (fun x hx => by simp at hx; omega)).gl).down (by omega)
    · 
      obtain ⟨R, hRl, hG, hRw⟩ := htb.raw
      have hR12 : R.length ≤ 12 := by omega
      clear hRl
      have htop := htb.top
      have hup := htb.up
      have hGl : ∀ q, Value.ownBlock (.slice A1 t.atoms.length c1) = some q → w0.heap.size ≤ q := fun q hq => (htop q hq).1
      have hneR : ∀ q, Value.ownBlock (.slice A1 t.atoms.length c1) = some q → q ≠ w.heap.size := fun q hq => by have := htop q hq; omega
      have hneT : ∀ q, Value.ownBlock (.slice A1 t.atoms.length c1) = some q → q ≠ w1.heap.size := fun q hq => by have := htop q hq; omega
      have yt : w1.heap.size < w4.heap.size := by omega
      have xt0 : w4.cell? ⟨w1.heap.size, 0, none⟩ = some (.slice A1 t.atoms.length c1) := hBt_4 0 _ rfl
      have ft := hFt_4
      obtain ⟨wa, Fs, xs, h00, hA⟩ := id hG
      have hAf := hA.flat
      have hRn := hRw.snoc (a := ⟨1, 9, ⟨[]⟩, ⟨[]⟩⟩) (r := (⟨[.int .i64 1, .int .i64 9, .slice none 0 0, .slice none 0 0], rfl, (by repeat (first | (exact fun _ h => absurd h (List.not_mem_nil)) | (refine List.forall_mem_cons.2 ⟨rfl, ?_⟩)))⟩ : Raw 3)) (⟨_, _, rfl, ⟨(show Fits 1 by unfold Fits; omega), (show Fits 9 by unfold Fits; omega)⟩, Sl.nil _ _, Sl.nil _ _⟩)
      go_upto_region 11 with (
          at_builtin
          refine wpList_append_push2 (w0 := wa) (wr := w4) rfl _ _ 23 rfl i0a _ 64 Try.underlying23 HIa.out HZ0a.out HZ1a.out HZ2a.out rfl (by decide) hA.app rfl (⟨[.int .i64 1, .int .i64 9, .slice none 0 0, .slice none 0 0], rfl, (by repeat (first | (exact fun _ h => absurd h (List.not_mem_nil)) | (refine List.forall_mem_cons.2 ⟨rfl, ?_⟩)))⟩ : Raw 3) #[.int .i64 1, .int .i64 9, .slice none 0 0, .slice none 0 0] 30 [] _ rfl Ext.auto ⟨rfl, rfl⟩ (Fr.nil _ _) (by repeat (first | (exact fun _ h => absurd h (List.not_mem_nil)) | (refine List.forall_mem_cons.2 ⟨rfl, ?_⟩))) (by unfold maxLen; omega) (by omega) ?_
          intro v' w9 xs' hA9 hg9 hb9
          have hG9 := Gro.pushG (lo := w0.heap.size) h00 hGl (by simp; omega) hAf hA9 hb9
          have hT9 := Turn.of_grown (show Ext w4 _ from Ext.auto) hg9
          have hz9 := hg9.size
          have hsz9 : w4.heap.size ≤ w9.heap.size := by simp at hz9; omega
          obtain ⟨R9, hR9⟩ : ∃ R9 : List (Raw 3), R9 = R ++ [(⟨[.int .i64 1, .int .i64 9, .slice none 0 0, .slice none 0 0], rfl, (by repeat (first | (exact fun _ h => absurd h (List.not_mem_nil)) | (refine List.forall_mem_cons.2 ⟨rfl, ?_⟩)))⟩ : Raw 3)] := ⟨_, rfl⟩
          rw [← hR9] at hG9 hRn
          clear hR9
          obtain ⟨A9, c9, rfl, -, -⟩ := hG9.form
          have hBt9 : Bx w9 (w1.heap.size) [.slice A1 t.atoms.length c1] := (show Bx (w4.alloc (.cells #[.int .i64 1, .int .i64 9, .slice none 0 0, .slice none 0 0] 30)) _ _ from Bx.alloc hBt_4 (by omega) _ _).grown hg9 (by simp; omega) (fun q => hneT _ q.symm rfl)
          have hFt9 : ∀ oo, w9.frozen? ⟨w1.heap.size, oo, none⟩ = false := fz_grown (show ∀ oo, (w4.alloc (.cells #[.int .i64 1, .int .i64 9, .slice none 0 0, .slice none 0 0] 30)).frozen? ⟨w1.heap.size, oo, none⟩ = false from fz_alloc hFt_4 (by omega) _) hg9 (by simp; omega) (fun q => hneT _ q.symm rfl)
          have hBres9 : Bx w9 (w.heap.size) [.slice none 0 0] := (show Bx (w4.alloc (.cells #[.int .i64 1, .int .i64 9, .slice none 0 0, .slice none 0 0] 30)) _ _ from Bx.alloc hBres_4 (by omega) _ _).grown hg9 (by simp; omega) (fun q => hneR _ q.symm rfl)
          have hFres9 : ∀ oo, w9.frozen? ⟨w.heap.size, oo, none⟩ = false := fz_grown (show ∀ oo, (w4.alloc (.cells #[.int .i64 1, .int .i64 9, .slice none 0 0, .slice none 0 0] 30)).frozen? ⟨w.heap.size, oo, none⟩ = false from fz_alloc hFres_4 (by omega) _) hg9 (by simp; omega) (fun q => hneR _ q.symm rfl)
          clear xt0 yt ft
          have yt : w1.heap.size < w9.heap.size := by omega
          have xt0 := hBt9 0 _ rfl
          have ft := hFt9)
      clear xt0 yt ft
      have hRn9 := RawOf.turn hRn hT9 (fun b hb => ⟨by omega, fun hm => by
        simp at hm
        first | exact hb.2 hm | (rcases hb with hb | hb <;> first | exact hb.2 hm | (have := htop _ hm; omega))⟩)
      have hne9 : ∀ q, Value.ownBlock (.slice A9 R9.length c9) = some q → q ≠ w.heap.size ∧ q ≠ w1.heap.size := fun q hq => by
        rcases hb9 with h | h
        · rw [h] at hq; exact ⟨hneR q hq, hneT q hq⟩
        · rw [h] at hq; injection hq with hq; simp at hq; constructor <;> omega
      have hRR := hR4.turn hT9 (fun q hq => by have := hGl q (by simpa using hq); omega)
      have hTT : Turn [rb] w w9 := hT4.trans hT9 (fun q hq => .inr (by have := hGl q (by simpa using hq); omega))
      have hne9R := fun q hq => (hne9 q hq).1
      have hne9T := fun q hq => (hne9 q hq).2
      clear hA9 hg9 hb9 hT9 hz9 hA hAf hG hRw hRn hne9
      have hBt_5 : Bx (w9.setCell ⟨w1.heap.size, 0, none⟩ (.slice A9 R9.length c9)) (w1.heap.size) [.slice A9 R9.length c9] := by have := Bx.put hBt9 (j := 0) (by simp) (.slice A9 R9.length c9); simpa using this
      have hFt_5 : ∀ oo, (w9.setCell ⟨w1.heap.size, 0, none⟩ (.slice A9 R9.length c9)).frozen? ⟨w1.heap.size, oo, none⟩ = false := fz_set hFt9 _ _
      have hBres_5 : Bx (w9.setCell ⟨w1.heap.size, 0, none⟩ (.slice A9 R9.length c9)) (w.heap.size) [.slice none 0 0] := Bx.setCell hBres9 (by simp; omega) _
      have hFres_5 : ∀ oo, (w9.setCell ⟨w1.heap.size, 0, none⟩ (.slice A9 R9.length c9)).frozen? ⟨w.heap.size, oo, none⟩ = false := fz_set hFres9 _ _
      have hR5 : Rdr rb base _ (w9.setCell ⟨w1.heap.size, 0, none⟩ (.slice A9 R9.length c9)) := Rdr.hold hRR
      have hT5 : Turn [rb] w (w9.setCell ⟨w1.heap.size, 0, none⟩ (.slice A9 R9.length c9)) := Turn.hold hTT
      have hG8 := Gro.set hG9 (p := ⟨w1.heap.size, 0, none⟩) hne9T (.slice A9 R9.length c9)
      have hRn8 := RawOf.turn (F := [w1.heap.size]) hRn9 (Turn.hold (Turn.refl _ _) : Turn [w1.heap.size] w9 (w9.setCell ⟨w1.heap.size, 0, none⟩ (.slice A9 R9.length c9))) (fun b hb => ⟨by omega, by simp; omega⟩)
      have hs8 : (w9.setCell ⟨w1.heap.size, 0, none⟩ (.slice A9 R9.length c9)).heap.size = w9.heap.size := by simp
      clear hBt9 hFt9 hBres9 hFres9 hRR hTT hG9 hRn9
      generalize (w9.setCell ⟨w1.heap.size, 0, none⟩ (.slice A9 R9.length c9)) = w5 at *
      have yt : w1.heap.size < w5.heap.size := by omega
      have xt0 : w5.cell? ⟨w1.heap.size, 0, none⟩ = some (.slice A9 R9.length c9) := hBt_5 0 _ rfl
      have ft := hFt_5
      have yres : w.heap.size < w5.heap.size := by omega
      have xres0 : w5.cell? ⟨w.heap.size, 0, none⟩ = some (.slice none 0 0) := hBres_5 0 _ rfl
      have fres := hFres_5
      go_wp2
      refine bodyPost_ret (v := .agg #[.slice A9 R9.length c9]) (by simp [results, Try.results24, go_sem, xres0]) rfl ⟨⟨(t.atoms ++ [⟨1, 9, ⟨[]⟩, ⟨[]⟩⟩]), A9, c9, by rw [← hRn8.1], ?_, by simp, by rw [List.length_append]; simp; omega, by rw [blk_snoc]; first | omega | (have : Bulk.blk (⟨1, 9, ⟨[]⟩, ⟨[]⟩⟩ : TabAtom) ≤ 10 := (by decide); omega) | (have : Bulk.blk (⟨4, 4, polK 50, ⟨[]⟩⟩ : TabAtom) ≤ 10 := (by decide); omega)⟩, (Rdr.hold hR5).up (by omega), Turn.hold hT5⟩
      rw [← hRn8.1]
      exact GlO.down (lo := w0.heap.size) (Gro.back rfl (Gro.set hG8 (p := ⟨w.heap.size, 0, none⟩) hne9R _) (RawOf.turn (F := [w.heap.size]) hRn8 (Turn.hold (Turn.refl _ _)) (fun b hb => ⟨by omega, by simp; omega⟩)) (fun b hb => ⟨by omega, by simp; omega⟩)) (by omega)

end Go.Proofs.Ytmbclopkopfngaa
