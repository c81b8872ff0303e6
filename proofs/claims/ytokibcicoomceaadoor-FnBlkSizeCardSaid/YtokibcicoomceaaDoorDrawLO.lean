/-
  A place and instructions are drawn, with something wrong perhaps.
-/
import Derived.Test.YtokibcicoomceaaDoorDrawL
import Derived.Test.YtokibcicoomceaaDoorDrawQ
import Derived.Test.YtokibcicoomceaaDoorDrawZ
import Derived.Deep.DeepCutAuto
namespace Go.Proofs.YtokibcicoomceaaDoor
open Go.RowKit

set_option linter.unusedVariables false
set_option linter.unusedSimpArgs false
set_option maxRecDepth 100000

def lenV : Value → Nat
  | .slice _ n _ => n
  | _ => 0
theorem Gro.rowI {e lo : Nat} {w : World} {v : Value} {l : List InsIns} (h : Gro e lo w v l) (hl : 0 < l.length) : ∃ g c, v = .slice (some ⟨g, 0, none⟩) l.length c ∧ lo ≤ g ∧ l.length ≤ c ∧ c ≤ maxLen ∧ FRow w g 0 l := by
  obtain ⟨wa, Fs, xs, h0, h⟩ := h
  obtain ⟨g, c', e1, h1, h2, h3, h4⟩ := h.app.toRow hl
  subst e1
  exact ⟨g, c', rfl, h.low g rfl, h1, h2, h4⟩
/-- Four cells are written over. -/
theorem FRow.setIns {w : World} {g : Nat} {l : List InsIns} (h : FRow w g 0 l) {k : Nat} (hk : k < l.length) (i : InsIns) (hok : i.Ok) {o0 o1 o2 o3 : Nat} (e0 : o0 = k * 4) (e1 : o1 = k * 4 + 1) (e2 : o2 = k * 4 + 2) (e3 : o3 = k * 4 + 3) :
    FRow ((((w.setCell ⟨g, o0, none⟩ (.int .i64 i.op)).setCell ⟨g, o1, none⟩ (.int .i64 i.d)).setCell ⟨g, o2, none⟩ (.int .i64 i.a)).setCell ⟨g, o3, none⟩ (.int .i64 i.k)) g 0 (l.set k i) := by
  subst e0 e1 e2 e3
  obtain ⟨vs, h1, h2⟩ := h.els k _ (List.getElem?_eq_getElem hk)
  have hsz : Rep.sz InsIns = 4 := rfl
  have hl4 := Rep.len h1
  rw [hsz] at h2 hl4
  have hc : ∀ j, j < 4 → ∃ u, w.cell? ⟨g, k * 4 + j, none⟩ = some u := fun j hj => ⟨_, by have := h2 j _ (List.getElem?_eq_getElem (by omega)); rwa [Nat.zero_add] at this⟩
  have hp : Put g (k * 4) [.int .i64 i.op, .int .i64 i.d, .int .i64 i.a, .int .i64 i.k] w (putAll g (k * 4) [.int .i64 i.op, .int .i64 i.d, .int .i64 i.a, .int .i64 i.k] w) := Put.all _ (fun j hj => hc j hj)
  refine h.upd hk i _ (S := fun _ => False) ⟨rfl, hok⟩ (fun o => hp.frozen _) (by rw [show (((((w.setCell ⟨g, k * 4, none⟩ (.int .i64 i.op)).setCell ⟨g, k * 4 + 1, none⟩ (.int .i64 i.d)).setCell ⟨g, k * 4 + 2, none⟩ (.int .i64 i.a)).setCell ⟨g, k * 4 + 3, none⟩ (.int .i64 i.k))).heap.size = w.heap.size from hp.size]; exact h.lt) (fun j u hu => ?_) (fun o ho => ?_)
  · have hj : j < 4 := (List.getElem?_eq_some_iff.1 hu).1
    rw [hsz, Nat.zero_add]
    have := hp.cells (k * 4 + j)
    rw [if_pos ⟨by omega, by show k * 4 + j < k * 4 + 4; omega⟩, show k * 4 + j - k * 4 = j by omega] at this
    exact this.trans hu
  · rw [hsz, Nat.zero_add] at ho
    have := hp.cells o
    rw [if_neg (fun hh => by have h9 : o < k * 4 + 4 := hh.2; have := hh.1; omega)] at this
    exact this

/-- A slice of instructions behind a place. -/
def Gl (lo : Nat) (w : World) (v : Value) (L : List InsIns) : Prop := Sl w (fun b => lo ≤ b ∧ b < w.heap.size) v L
theorem Gl.of_gro {e lo : Nat} {w : World} {v : Value} {L : List InsIns} (h : Gro e lo w v L) : Gl lo w v L := by
  obtain ⟨wa, Fs, xs, h0, h⟩ := h
  obtain ⟨F, hO, hF⟩ := h.app.done4
  refine hO.sl.keep (fun _ _ _ => rfl) (fun b hb => ?_)
  rcases hF with rfl | ⟨q, hq, rfl⟩
  · simp at hb
  · simp at hb
    subst hb
    exact ⟨h.low b hq, h.lt b hq⟩
theorem Gl.of_row {lo : Nat} {w : World} {g n c : Nat} {L : List InsIns} (h : FRow w g 0 L) (hn : n = L.length) (hc : L.length ≤ c) (hm : c ≤ maxLen) (hg : lo ≤ g) : Gl lo w (.slice (some ⟨g, 0, none⟩) n c) L := by
  subst hn
  refine ⟨_, c, rfl, hc, hm, fun h => by simp at h, fun _ => ⟨g, 0, rfl, ⟨hg, h.lt⟩, fun i a ha => ?_⟩⟩
  obtain ⟨vs, h1, h2⟩ := h.els i a ha
  exact ⟨vs, Flat.any h1, h2⟩
theorem Gl.sl {lo : Nat} {w : World} {v : Value} {L : List InsIns} (h : Gl lo w v L) : Sl w (Old w) v L := h.keep (fun _ _ _ => rfl) (fun b hb => hb.2)
theorem Gl.turn {lo : Nat} {w w' : World} {F : List Nat} {v : Value} {L : List InsIns} (h : Gl lo w v L) (k : Turn F w w') (hF : ∀ x, x ∈ F → x < lo) : Gl lo w' v L := 
  (Sl.turn h k (fun x hx => ⟨hx.2, fun hm => by have := hF x hm; omega⟩)).keep (fun _ _ _ => rfl) (fun b hb => ⟨hb.1, Nat.lt_of_lt_of_le hb.2 k.size⟩)

set_option maxHeartbeats 16000000 in
theorem l21ListOr_any (rb base P : Nat) (w : World) (h : Rdr rb base P w) (hP : P ≤ 1099511600000) (n : Int) (hn0 : 0 ≤ n) (hn : n ≤ 1000) :
    Calls Tryd.prog 45 #[.pointer (some ⟨rb, 0, none⟩), .int .i64 n] w fun e w' => (∃ (pc : Int) (v : Value), e = .returned (.tuple #[.int .i64 pc, v]) ∧ ∃ L : List InsIns, Gl w.heap.size w' v L ∧ L.length ≤ 9 ∧ -1 ≤ pc ∧ pc ≤ 64) ∧ Rdr rb base (P + 400) w' ∧ Turn [rb] w w' := by
  have hlt := h.lt
  have hlt1 := hlt.1
  have hlt2 := hlt.2
  clear hlt
  obtain ⟨i0, hi, hz0, hz1, hz2⟩ := info_parts infInsIns
  have HI := hide hi
  have HZ0 := hide hz0
  have HZ1 := hide hz1
  have HZ2 := hide hz2
  clear hi hz0 hz1 hz2
  go_enter Tryd.func45, Tryd.ntmps45
  go_upto_region 1 with fail
  have he0 : Ext w w := Ext.refl _
  have hs0 : w.heap.size ≤ w.heap.size := Nat.le_refl _
  have hR0 : Rdr rb base P w := h.ext he0
  have hT0 : Turn [rb] w w := Turn.of_ext he0 _
  go_wp2_with fail
  refine (l21List_any rb base _ _ (Rdr.hold hR0) (by omega)).mono ?_
  rintro e w1 ⟨⟨v, rfl, L, hG1, hL1, hL8, HB⟩, hR1, hy⟩
  have hs1 := hy.size
  have hT1 : Turn [rb] w w1 := (Turn.hold hT0).trans hy
  clear hy hR0 hT0
  obtain ⟨g, c, rfl, hg0, hcl, hcm, -⟩ := hG1.rowI hL1
  have HIN := hide HB
  clear HB
  unfold maxLen at hcm
  have zw1 : IntKind.i64.wrap (64 - (L.length : Int)) = 64 - (L.length : Int) := by rw [IntKind.wrap_i64]; omega
  have zw2 : IntKind.i64.wrap (64 - (L.length : Int) + 1) = 64 - (L.length : Int) + 1 := by rw [IntKind.wrap_i64]; omega
  go_wp2_with fail
  refine (pick_any rb base _ _ (Rdr.hold hR1) (by omega) (64 - (L.length : Int) + 1) (by omega) (by omega)).mono ?_
  rintro e w2 ⟨⟨pc, rfl, lpc, qpc⟩, hR2, hy⟩
  have upc : pc < (64 - (L.length : Int) + 1) := by omega
  clear qpc
  have hs2 := hy.size
  try simp at hs2
  have hT2 : Turn [rb] w w2 := (Turn.hold hT1).trans hy
  have hG2 := Gro.turn (Gro.ext hG1 Ext.auto) hy (fun q hq => by have := (hG1.lt q hq).1; simp; omega)
  clear hG1
  clear hy
  go_wp2_with fail
  refine (odd_any rb base _ _ (Rdr.hold hR2) (by omega) n (by omega) (by omega)).mono ?_
  rintro e w3 ⟨⟨b, rfl⟩, hR3, hy⟩
  have hs3 := hy.size
  have hT3 : Turn [rb] w w3 := (Turn.hold hT2).trans hy
  have hG3 := Gro.turn (Gro.ext hG2 Ext.auto) hy (fun q hq => by have := (hG2.lt q hq).1; simp; omega)
  clear hG2
  clear hy hR2 hT2
  cases b
  · 
    go_wp2
    refine bodyPost_ret (v := .tuple #[.int .i64 pc, .slice (some ⟨g, 0, none⟩) L.length c]) (by simp [results, Tryd.results45, go_sem]) rfl ⟨⟨pc, _, rfl, _, Gl.of_gro hG3, by (try simp); (try omega), by omega, by omega⟩, (Rdr.hold hR3).up (by omega), Turn.hold hT3⟩
  · 
    go_wp2_with fail
    refine (pick_any rb base _ _ (Rdr.hold hR3) (by omega) (L.length : Int) (by omega) (by omega)).mono ?_
    rintro e w4 ⟨⟨kk, rfl, lkk, qkk⟩, hR4, hy⟩
    have ukk : kk < (L.length : Int) := by omega
    clear qkk
    have hs4 := hy.size
    try simp at hs4
    have hT4 : Turn [rb] w w4 := (Turn.hold hT3).trans hy
    have hG4 := Gro.turn (Gro.ext hG3 Ext.auto) hy (fun q hq => by have := (hG3.lt q hq).1; simp; omega)
    clear hG3
    clear hy
    go_wp2_with fail
    refine (pick_any rb base _ _ (Rdr.hold hR4) (by omega) 6 (by omega) (by omega)).mono ?_
    rintro e w5 ⟨⟨v, rfl, lv, qv⟩, hR5, hy⟩
    have uv : v < 6 := by omega
    clear qv
    have hs5 := hy.size
    try simp at hs5
    have hT5 : Turn [rb] w w5 := (Turn.hold hT4).trans hy
    have hG5 := Gro.turn (Gro.ext hG4 Ext.auto) hy (fun q hq => by have := (hG4.lt q hq).1; simp; omega)
    clear hG4
    clear hy
    obtain ⟨K, rfl⟩ := Int.eq_ofNat_of_zero_le lkk
    have hK : K < L.length := by omega
    have zk0 : (0 : Int) ≤ (K : Int) := by omega
    have zk1 : (K : Int) < (L.length : Int) := by omega
    have hc : v = 0 ∨ v = 1 ∨ v = 2 ∨ v = 3 ∨ v = 4 ∨ v = 5 := by omega
    clear lv uv lkk ukk
    rcases hc with rfl | rfl | rfl | rfl | rfl | rfl
    · 
      go_wp2_with fail
      refine (pick_any rb base _ _ (Rdr.hold hR5) (by omega) 2 (by omega) (by omega)).mono ?_
      rintro e w6 ⟨⟨iq, rfl, liq, qiq⟩, hR6, hy⟩
      have uiq : iq < 2 := by omega
      clear qiq
      have hBt := hy.bx (Bx.new w5 #[.int .i64 (-1), .int .i64 (64 - (L.length : Int) + 1)] 3) (by simp) (by simp; omega)
      have yt : w5.heap.size < w6.heap.size := by have := hy.size; simp at this; omega
      have hs6 := hy.size
      try simp at hs6
      have hT6 : Turn [rb] w w6 := (Turn.hold hT5).trans hy
      obtain ⟨Vq, rfl⟩ := Int.eq_ofNat_of_zero_le liq
      have hVq : Vq < 2 := by omega
      have hBt : Bx w6 w5.heap.size (List.map (Value.int .i64) [(-1), (64 - (L.length : Int) + 1)]) := hBt
      have eq := hBt.at_ (v := Vq) hVq
      have hb : ∀ zz ∈ ([(-1), (64 - (L.length : Int) + 1)] : List Int), -1 ≤ zz ∧ zz < 65 := by intro zz hzz; simp at hzz; omega
      have hb2 := hb _ (List.getElem_mem (l := [(-1), (64 - (L.length : Int) + 1)]) (n := Vq) hVq)
      clear hb hBt
      generalize ([(-1), (64 - (L.length : Int) + 1)] : List Int)[Vq] = q at *
      have lq := hb2.1
      have uq := hb2.2
      clear hb2
      have z0 : (0 : Int) ≤ (Vq : Int) := by omega
      have z1 : (Vq : Int) < 2 := by omega
      have hG6 := Gro.turn (Gro.ext hG5 Ext.auto) hy (fun q hq => by have := (hG5.lt q hq).1; simp; omega)
      clear hG5
      go_wp2
      refine bodyPost_ret (v := .tuple #[.int .i64 q, .slice (some ⟨g, 0, none⟩) L.length c]) (by simp [results, Tryd.results45, go_sem]) rfl ⟨⟨q, _, rfl, _, Gl.of_gro hG6, by (try simp); (try omega), by omega, by omega⟩, (Rdr.hold hR6).up (by omega), Turn.hold hT6⟩
    · 
      have hG9 := (Gro.empty (α := InsIns) w5 30).down (show w.heap.size ≤ w5.heap.size by omega)
      go_wp2
      refine bodyPost_ret (v := .tuple #[.int .i64 pc, .slice (some ⟨w5.heap.size, 0, none⟩) 0 0]) (by simp [results, Tryd.results45, go_sem]) rfl ⟨⟨pc, _, rfl, _, Gl.of_gro hG9, by (try simp); (try omega), by omega, by omega⟩, (Rdr.hold hR5).up (by omega), Turn.hold hT5⟩
    · 
      go_wp2_with fail
      refine (l20InsOr_any rb base _ _ (Rdr.hold hR5) (by omega) 1 (by omega) (by omega)).mono ?_
      rintro e w6 ⟨⟨i, rfl, hi⟩, hR6, hy⟩
      have hs6 := hy.size
      have hT6 : Turn [rb] w w6 := (Turn.hold hT5).trans hy
      have hG6 := Gro.turn (Gro.ext hG5 Ext.auto) hy (fun q hq => by have := (hG5.lt q hq).1; simp; omega)
      clear hG5
      clear hy
      obtain ⟨g2, c2, he2, hg2, hc2, hm2, hRow⟩ := hG6.rowI (by omega)
      injection he2 with he3 he4 he5
      injection he3 with he6
      injection he6 with he7
      subst he7 he5
      clear he4 hG6
      have hRow2 := hRow.setIns hK (i) (hi.ok) rfl rfl rfl rfl
      have fg := hRow.fz
      have yg := hRow.lt
      obtain ⟨vs9, hv1, hv2⟩ := hRow.els K _ (List.getElem?_eq_getElem hK)
      obtain ⟨rfl, -⟩ := hv1
      have xg0 : w6.cell? ⟨g, K * 4, none⟩ = some (.int .i64 L[K].op) := by have := hv2 0 _ rfl; rwa [Nat.zero_add] at this
      have xg1 : w6.cell? ⟨g, K * 4 + 1, none⟩ = some (.int .i64 L[K].d) := by have := hv2 1 _ rfl; rwa [Nat.zero_add] at this
      have xg2 : w6.cell? ⟨g, K * 4 + 2, none⟩ = some (.int .i64 L[K].a) := by have := hv2 2 _ rfl; rwa [Nat.zero_add] at this
      have xg3 : w6.cell? ⟨g, K * 4 + 3, none⟩ = some (.int .i64 L[K].k) := by have := hv2 3 _ rfl; rwa [Nat.zero_add] at this
      clear hv2
      go_wp2
      refine bodyPost_ret (v := .tuple #[.int .i64 pc, .slice (some ⟨g, 0, none⟩) L.length c]) (by simp [results, Tryd.results45, go_sem]) rfl ⟨⟨pc, _, rfl, _, Gl.of_row hRow2 (by simp) (by simp; omega) (by unfold maxLen; omega) hg0, by (try simp); (try omega), by omega, by omega⟩, (Rdr.hold hR6).up (by omega), Turn.hold hT6⟩
    · 
      obtain ⟨g2, c2, he2, hg2, hc2, hm2, hRow⟩ := hG5.rowI (by omega)
      injection he2 with he3 he4 he5
      injection he3 with he6
      injection he6 with he7
      subst he7 he5
      clear he4 hG5
      have hRow2 := hRow.setIns hK (⟨13, 0, 0, 0⟩) (InsZ.ok (by unfold InsZ; simp)) rfl rfl rfl rfl
      have fg := hRow.fz
      have yg := hRow.lt
      obtain ⟨vs9, hv1, hv2⟩ := hRow.els K _ (List.getElem?_eq_getElem hK)
      obtain ⟨rfl, -⟩ := hv1
      have xg0 : w5.cell? ⟨g, K * 4, none⟩ = some (.int .i64 L[K].op) := by have := hv2 0 _ rfl; rwa [Nat.zero_add] at this
      have xg1 : w5.cell? ⟨g, K * 4 + 1, none⟩ = some (.int .i64 L[K].d) := by have := hv2 1 _ rfl; rwa [Nat.zero_add] at this
      have xg2 : w5.cell? ⟨g, K * 4 + 2, none⟩ = some (.int .i64 L[K].a) := by have := hv2 2 _ rfl; rwa [Nat.zero_add] at this
      have xg3 : w5.cell? ⟨g, K * 4 + 3, none⟩ = some (.int .i64 L[K].k) := by have := hv2 3 _ rfl; rwa [Nat.zero_add] at this
      clear hv2
      go_wp2
      refine bodyPost_ret (v := .tuple #[.int .i64 pc, .slice (some ⟨g, 0, none⟩) L.length c]) (by simp [results, Tryd.results45, go_sem]) rfl ⟨⟨pc, _, rfl, _, Gl.of_row hRow2 (by simp) (by simp; omega) (by unfold maxLen; omega) hg0, by (try simp); (try omega), by omega, by omega⟩, (Rdr.hold hR5).up (by omega), Turn.hold hT5⟩
    · 
      go_wp2
      go_loopw [6] (fun v6 wz => ∃ (L : List InsIns) (A : Option Addr) (c : Nat), v6 = .slice A L.length c ∧ L.length ≤ 9 ∧ Gro 30 w.heap.size wz (.slice A L.length c) L ∧ Rdr rb base (P + 90 + 9 * L.length) wz ∧ Turn [rb] w wz) (fun v6 _ => 9 - (lenV v6))
      case atStart => exact ⟨L, _, c, rfl, by omega, hG5, (Rdr.hold hR5).up (by omega), hT5⟩
      case round =>
        obtain ⟨wb, hwr⟩ : ∃ wb : World, wb = wr := ⟨_, rfl⟩
        subst hwr
        clear hG5 hR5 hT5 HIN zw1 zw2 hK zk0 zk1 hcl hcm hg0 hL1 hL8
        obtain ⟨L, A, c, rfl, hl9, hG, hR, hT⟩ := hrel
        have hGl := hG.lt
        have hsw := hT.size
        have hm1 := hG.form
        by_cases hlr : L.length ≤ 8
        · 
          have q1 : decide ((L.length : Int) ≤ 8) = true := decide_eq_true (by omega)
          go_wp2_with fail
          refine (l20Flat_any rb base _ _ hR (by omega)).mono ?_
          rintro e w5 ⟨⟨i, rfl, hi⟩, hR5, hy⟩
          have hs5 := hy.size
          have hG5 := hG.turn hy (fun q hq => by have := (hGl q hq).1; simp; omega)
          have hT5 := hT.trans hy
          clear hy hG hR hT
          have hok9 : InsIns.Ok i := hi.ok
          obtain ⟨wa, Fs, xs, h00, hA⟩ := hG5
          have hAf := hA.flat
          go_wp2_with (at_builtin; go_must (refine wpList_append_push2 (α := InsIns) (w0 := wa) (wr := w5) rfl _ _ 23 rfl i0 _ 32 Tryd.underlying23 HI.out HZ0.out HZ1.out HZ2.out rfl (by decide) hA.app rfl (i) #[.int .i64 i.op, .int .i64 i.d, .int .i64 i.a, .int .i64 i.k] 30 [] _ rfl Ext.auto ⟨rfl, hok9, rfl⟩ (Fr.nil _ _) (by repeat (first | (exact fun _ h => absurd h (List.not_mem_nil)) | (refine List.forall_mem_cons.2 ⟨rfl, ?_⟩))) (by unfold maxLen; omega) (by omega) ?_); intro v' w9 xs' hA9 hg9 hb9; have hG9 := Gro.push h00 (fun q hq => (hGl q hq).1) (by simp; omega) hAf hA9 hb9; have hT9 := (Turn.of_grown (a := w5) (b := (w5.alloc (.cells #[.int .i64 i.op, .int .i64 i.d, .int .i64 i.a, .int .i64 i.k] 30))) Ext.auto hg9); obtain ⟨A9, c9, rfl, hl9, hm9⟩ := hG9.form)
          have hR9 := hR5.turn hT9 (fun q hq => by have := (hGl q (by simpa using hq)).1; omega)
          have hTw := hT5.trans hT9 (fun q hq => .inr (hGl q (by simpa using hq)).1)
          have hll : (L ++ [i]).length = L.length + 1 := by simp
          go_round
          case rel => exact ⟨L ++ [i], A9, c9, by rw [hll], by rw [hll]; omega, hG9, hR9.up (by rw [hll]; omega), hTw⟩
          case measure => (simp [lenV]; try omega)
        · 
          have q1 : decide ((L.length : Int) ≤ 8) = false := decide_eq_false (by omega)
          go_wp2
          refine bodyPost_ret (v := .tuple #[.int .i64 pc, .slice A L.length c]) (by simp [results, Tryd.results45, go_sem]) rfl ⟨⟨pc, _, rfl, _, Gl.of_gro hG, by (try simp); (try omega), by omega, by omega⟩, (Rdr.hold hR).up (by omega), Turn.hold hT⟩
    · 
      obtain ⟨g2, c2, he2, hg2, hc2, hm2, hRow⟩ := hG5.rowI (by omega)
      injection he2 with he3 he4 he5
      injection he3 with he6
      injection he6 with he7
      subst he7 he5
      clear he4 hG5
      have hRow2 := hRow.setIns hK (⟨0, 0, 0, 0⟩) (InsZ.ok (by unfold InsZ; simp)) rfl rfl rfl rfl
      have fg := hRow.fz
      have yg := hRow.lt
      obtain ⟨vs9, hv1, hv2⟩ := hRow.els K _ (List.getElem?_eq_getElem hK)
      obtain ⟨rfl, -⟩ := hv1
      have xg0 : w5.cell? ⟨g, K * 4, none⟩ = some (.int .i64 L[K].op) := by have := hv2 0 _ rfl; rwa [Nat.zero_add] at this
      have xg1 : w5.cell? ⟨g, K * 4 + 1, none⟩ = some (.int .i64 L[K].d) := by have := hv2 1 _ rfl; rwa [Nat.zero_add] at this
      have xg2 : w5.cell? ⟨g, K * 4 + 2, none⟩ = some (.int .i64 L[K].a) := by have := hv2 2 _ rfl; rwa [Nat.zero_add] at this
      have xg3 : w5.cell? ⟨g, K * 4 + 3, none⟩ = some (.int .i64 L[K].k) := by have := hv2 3 _ rfl; rwa [Nat.zero_add] at this
      clear hv2
      go_wp2
      refine bodyPost_ret (v := .tuple #[.int .i64 pc, .slice (some ⟨g, 0, none⟩) L.length c]) (by simp [results, Tryd.results45, go_sem]) rfl ⟨⟨pc, _, rfl, _, Gl.of_row hRow2 (by simp) (by simp; omega) (by unfold maxLen; omega) hg0, by (try simp); (try omega), by omega, by omega⟩, (Rdr.hold hR5).up (by omega), Turn.hold hT5⟩

end Go.Proofs.YtokibcicoomceaaDoor
