/-
  What the laws on pieces of code draw.
-/
import Derived.Test.YtokibcicoomceaaDoorDrawLO
import Derived.Deep.DeepCutAuto
namespace Go.Proofs.YtokibcicoomceaaDoor
open Go.RowKit

set_option linter.unusedVariables false
set_option linter.unusedSimpArgs false
set_option maxRecDepth 100000

theorem Gro.row2 {e lo : Nat} {w : World} {v : Value} {l : List Int} (h : Gro e lo w v l) (hl : 0 < l.length) : ∃ g c, v = .slice (some ⟨g, 0, none⟩) l.length c ∧ lo ≤ g ∧ l.length ≤ c ∧ c ≤ maxLen ∧ FRow w g 0 l := by
  obtain ⟨wa, Fs, xs, h0, h⟩ := h
  obtain ⟨g, c', e1, h1, h2, h3, h4⟩ := h.app.toRow hl
  subst e1
  exact ⟨g, c', rfl, h.low g rfl, h1, h2, h4⟩

set_option maxHeartbeats 16000000 in
theorem drawBlkOk_any (code : List UInt8) (v : Value) (w : World) (h : Sl w (Old w) v code) : Calls Tryd.prog 9 #[v] w fun e w' => (∃ (pc : Int) (A : Option Addr) (c : Nat) (L : List InsIns), e = .returned (.tuple #[.int .i64 pc, .slice A L.length c]) ∧ Sl w' (Old w') (.slice A L.length c) L ∧ L.length ≤ 9 ∧ -1 ≤ pc ∧ pc ≤ 64) ∧ Ext w w' := by
  obtain ⟨Ac, cc, rfl, -, -⟩ := h.form
  go_enter Tryd.func9, Tryd.ntmps9
  go_wp2_with fail
  refine (l20Open_any code _ _ h).mono ?_
  rintro e w1 ⟨rfl, hR1, he1⟩
  have hs1 := he1.size
  have hrl := hR1.lt
  go_wp2_with fail
  refine (l21ListOr_any w.heap.size (w.heap.size + 1) 0 _ hR1 (by omega) 2 (by omega) (by omega)).mono ?_
  rintro e w2 ⟨⟨pc, v, rfl, L, hG, hl9, hp0, hp1⟩, -, hT⟩
  have he2 : Ext w w2 := hT.ext he1 (by simp)
  obtain ⟨A, c, rfl, -, -⟩ := hG.form
  go_wp2
  refine bodyPost_ret (v := .tuple #[.int .i64 pc, .slice A L.length c]) (by simp [results, Tryd.results9, go_sem]) rfl ⟨⟨pc, A, c, L, rfl, hG.sl, hl9, hp0, hp1⟩, he2⟩

set_option maxHeartbeats 16000000 in
theorem drawBlkLower_any (code : List UInt8) (v : Value) (w : World) (h : Sl w (Old w) v code) : Calls Tryd.prog 14 #[v] w fun e w' => (∃ (pc : Int) (A : Option Addr) (c : Nat) (L : List InsIns), e = .returned (.tuple #[.int .i64 pc, .slice A L.length c]) ∧ Sl w' (Old w') (.slice A L.length c) L ∧ L.length ≤ 9 ∧ -1 ≤ pc ∧ pc ≤ 64) ∧ Ext w w' := by
  obtain ⟨Ac, cc, rfl, -, -⟩ := h.form
  go_enter Tryd.func14, Tryd.ntmps14
  go_wp2_with fail
  refine (l20Open_any code _ _ h).mono ?_
  rintro e w1 ⟨rfl, hR1, he1⟩
  have hs1 := he1.size
  have hrl := hR1.lt
  go_wp2_with fail
  refine (l21ListOr_any w.heap.size (w.heap.size + 1) 0 _ hR1 (by omega) 9 (by omega) (by omega)).mono ?_
  rintro e w2 ⟨⟨pc, v, rfl, L, hG, hl9, hp0, hp1⟩, -, hT⟩
  have he2 : Ext w w2 := hT.ext he1 (by simp)
  obtain ⟨A, c, rfl, -, -⟩ := hG.form
  go_wp2
  refine bodyPost_ret (v := .tuple #[.int .i64 pc, .slice A L.length c]) (by simp [results, Tryd.results14, go_sem]) rfl ⟨⟨pc, A, c, L, rfl, hG.sl, hl9, hp0, hp1⟩, he2⟩

set_option maxHeartbeats 16000000 in
theorem drawBlkWords_any (code : List UInt8) (v : Value) (w : World) (h : Sl w (Old w) v code) : Calls Tryd.prog 18 #[v] w fun e w' => (∃ (A : Option Addr) (c : Nat) (L : List InsIns), e = .returned (.slice A L.length c) ∧ Sl w' (Old w') (.slice A L.length c) L ∧ L.length ≤ 9) ∧ Ext w w' := by
  obtain ⟨Ac, cc, rfl, -, -⟩ := h.form
  go_enter Tryd.func18, Tryd.ntmps18
  go_wp2_with fail
  refine (l20Open_any code _ _ h).mono ?_
  rintro e w1 ⟨rfl, hR1, he1⟩
  have hs1 := he1.size
  have hrl := hR1.lt
  go_wp2_with fail
  refine (l21ListOr_any w.heap.size (w.heap.size + 1) 0 _ hR1 (by omega) 5 (by omega) (by omega)).mono ?_
  rintro e w2 ⟨⟨pc, v, rfl, L, hG, hl9, hp0, hp1⟩, -, hT⟩
  have he2 : Ext w w2 := hT.ext he1 (by simp)
  obtain ⟨A, c, rfl, -, -⟩ := hG.form
  go_wp2
  go_ret
  exact ⟨⟨A, c, L, rfl, hG.sl, hl9⟩, he2⟩

set_option maxHeartbeats 16000000 in
theorem drawBlkTake_any (code : List UInt8) (v : Value) (w : World) (h : Sl w (Old w) v code) : Calls Tryd.prog 19 #[v] w fun e w' => (∃ (A : Option Addr) (c : Nat) (ws : List Int), e = .returned (.slice A ws.length c) ∧ Sl w' (Old w') (.slice A ws.length c) ws ∧ ws.length ≤ 8) ∧ Ext w w' := by
  obtain ⟨Ac, cc, rfl, -, -⟩ := h.form
  go_enter Tryd.func19, Tryd.ntmps19
  go_wp2_with fail
  refine (l20Open_any code _ _ h).mono ?_
  rintro e w1 ⟨rfl, hR1, he1⟩
  have hs1 := he1.size
  have hrl := hR1.lt
  go_wp2_with fail
  refine (l21List_any w.heap.size (w.heap.size + 1) 0 _ hR1 (by omega)).mono ?_
  rintro e w2 ⟨⟨v, rfl, L, hG, hL1, hL8, -⟩, hR2, hT⟩
  have hs2 := hT.size
  have he2 : Ext w w2 := hT.ext he1 (by simp)
  obtain ⟨A, c, rfl, -, -⟩ := hG.form
  clear hT
  go_wp2_with fail
  refine (blkWords_any L _ _ hG.sl (by omega)).mono ?_
  rintro e w3 ⟨⟨v, rfl, hG3⟩, hy⟩
  have hs3 := hy.size
  have he3 := he2.trans hy
  have hR3 := hR2.ext hy
  have hn : (L.map insPut).length = L.length := List.length_map ..
  generalize L.map insPut = ws at *
  have hws : ws.length ≤ 8 := by omega
  have hws1 : 1 ≤ ws.length := by omega
  clear hn hy hG
  obtain ⟨g, c3, he, hg3, hc3, hm3, hRow⟩ := hG3.row2 (by omega)
  subst he
  have hs23 : w1.heap.size ≤ w3.heap.size := by omega
  go_wp2_with fail
  refine (odd_any w.heap.size (w.heap.size + 1) _ _ hR3 (by omega) 3 (by omega) (by omega)).mono ?_
  rintro e w4 ⟨⟨b, rfl⟩, hR4, hy⟩
  have hG4 := hG3.turn hy (fun q hq => by have := (hG3.lt q hq).1; simp; omega)
  have he4 : Ext w w4 := hy.ext he3 (by simp)
  have hs4 := hy.size
  clear hy hG3 hR3 hRow
  cases b
  · go_wp2
    go_ret
    exact ⟨⟨_, _, ws, rfl, hG4.sl, hws⟩, he4⟩
  · go_wp2_with fail
    refine (pick_any w.heap.size (w.heap.size + 1) _ _ hR4 (by omega) (ws.length : Int) (by omega) (by omega)).mono ?_
    rintro e w5 ⟨⟨k, rfl, lk, qk⟩, hR5, hy⟩
    have hG5 := hG4.turn hy (fun q hq => by have := (hG4.lt q hq).1; simp; omega)
    have he5 : Ext w w5 := hy.ext he4 (by simp)
    have hs5 := hy.size
    clear hy hG4 hR4
    obtain ⟨K, rfl⟩ := Int.eq_ofNat_of_zero_le lk
    have hK : K < ws.length := by omega
    have zk0 : (0 : Int) ≤ (K : Int) := by omega
    have zk1 : (K : Int) < (ws.length : Int) := by omega
    clear qk lk
    go_wp2_with fail
    refine (l20WordOr_any w.heap.size (w.heap.size + 1) _ _ hR5 (by omega) 4 (by omega) (by omega)).mono ?_
    rintro e w6 ⟨⟨x, rfl, lx, ux⟩, hR6, hy⟩
    have hG6 := hG5.turn hy (fun q hq => by have := (hG5.lt q hq).1; simp; omega)
    have he6 : Ext w w6 := hy.ext he5 (by simp)
    have hs6 := hy.size
    clear hy hG5 hR5
    have hfit : Fits x := by unfold Fits; omega
    have hG7 := hG6.setInt hK hfit
    obtain ⟨g2, c2, he, hg2, hc2, hm2, hRow⟩ := hG6.row2 (by omega)
    injection he with q1 q2 q3
    injection q1 with q4
    injection q4 with q5
    subst q5
    clear q2 q3
    have fg := hRow.fz
    have yg := hRow.lt
    have xg := hRow.int0 hK
    have hl7 : (ws.set K x).length = ws.length := by simp
    have hS := hG7.sl
    rw [← hl7] at hS
    go_wp2
    go_ret
    rw [← hl7]
    exact ⟨⟨_, _, ws.set K x, rfl, hS, by simp; omega⟩, Ext.hold he6⟩

end Go.Proofs.YtokibcicoomceaaDoor
