/-
  Pick, DrawW, DrawS, DrawQ
-/
import Derived.Test.YtmbclopkopfngaaQMachLib
import Derived.Test.YtmbclopkopfngaaQRegLib
import Derived.Test.YtmbclopkopfngaaQConstW
import Derived.Test.YtmbclopkopfngaaQAppLib
import Derived.Test.YtmbclopkopfngaaQRead
import Derived.Test.YtmbclopkopfngaaQByteLib
import Derived.Test.YtmbclopkopfngaaQDoT
import Derived.Test.YtmbclopkopfngaaRows
import Derived.Deep.DeepCutAuto
namespace Go.Proofs.Ytmbclopkopfngaa
open Go.RowKit

set_option linter.unusedVariables false
set_option linter.unusedSimpArgs false
set_option maxRecDepth 100000

set_option maxHeartbeats 16000000 in
theorem pick_any (rb base P : Nat) (w : World) (h : Rdr rb base P w) (hP : P ≤ 1099511627776) (n : Int) (hn : n ≤ 1099511627776) (hn0 : -1099511627776 ≤ n) :
    Calls Try.prog 25 #[.pointer (some ⟨rb, 0, none⟩), .int .i64 n] w fun e w' => (∃ v : Int, e = .returned (.int .i64 v) ∧ Picked n v) ∧ Rdr rb base (P + 1) w' ∧ Turn [rb] w w' := by
  obtain ⟨A, c, p, code, h⟩ := h
  have hp := h.le
  have hln := h.ln
  have hN := h.next
  have hT : Turn [rb] w (w.setCell ⟨rb, 1, none⟩ (.int .i64 ((p + 1 : Nat) : Int))) := (Turn.refl [rb] w).set (.inl (by simp)) _
  have x0 := h.bx 0 _ rfl
  have x1 := h.bx 1 _ rfl
  have fx := h.fz
  have y0 : rb < w.heap.size := Nat.lt_of_lt_of_le h.lt h.bs
  have hc := hide (show ((p : Int) + 1) = ((p + 1 : Nat) : Int) by omega)
  have hsl := h.sl
  clear h
  by_cases hn1 : n < 1
  · have q1 : decide (n < 1) = true := decide_eq_true hn1
    go_enter Try.func25, Try.ntmps25
    go_wp2
    go_ret
    refine ⟨⟨_, rfl, by unfold Picked; omega⟩, ?_, ?_⟩
    · have := (⟨A, c, p + 1, code, hN⟩ : Rdr rb base (P + 1) _); rw [← hc.out] at this; exact this
    · have := hT; rw [← hc.out] at this; exact this
  have q1 : decide (n < 1) = false := decide_eq_false hn1
  by_cases h0 : code.length = 0
  · have q2 : ((code.length : Int) == 0) = true := beq_iff_eq.2 (by omega)
    clear h0
    go_enter Try.func25, Try.ntmps25
    go_wp2
    go_ret
    refine ⟨⟨_, rfl, by unfold Picked; omega⟩, ?_, ?_⟩
    · have := (⟨A, c, p + 1, code, hN⟩ : Rdr rb base (P + 1) _); rw [← hc.out] at this; exact this
    · have := hT; rw [← hc.out] at this; exact this
  have q2 : ((code.length : Int) == 0) = false := beq_eq_false_iff_ne.2 (by omega)
  go_enter Try.func25, Try.ntmps25
  go_upto_region 4 with fail
  rw [← hc.out] at hN hT
  generalize w.setCell ⟨rb, 1, none⟩ (.int .i64 ((p : Int) + 1)) = w1 at *
  clear x0 x1 fx y0 hsl
  have x0 := hN.bx 0 _ rfl
  have x1 := hN.bx 1 _ rfl
  rw [← hc.out] at x1
  have hR : Rdr rb base (P + 1) w1 := ⟨A, c, p + 1, code, hN⟩
  obtain ⟨M, rfl⟩ := Int.eq_ofNat_of_zero_le (show 0 ≤ n by omega)
  have hM1 := hide (show 0 < (M : Int) by omega)
  by_cases hk : p < code.length
  · have q3 : decide ((p : Int) < (code.length : Int)) = true := decide_eq_true (by omega)
    obtain ⟨b, off, rfl, hbo, e0⟩ := at_UInt8 hN.sl hk
    have hbl : b < w1.heap.size := Nat.lt_of_lt_of_le hbo.1 hN.bs
    have hb8 := code[p].toNat_lt
    have HV := hide (Int.ofNat_tmod code[p].toNat M)
    have hM := hide (show code[p].toNat % M < M from Nat.mod_lt _ (by omega))
    have z0 : (0 : Int) ≤ (p : Int) := by omega
    have z1 : (p : Int) < (code.length : Int) := by omega
    clear hN
    go_wp2
    go_ret
    exact ⟨⟨_, rfl, Int.emod_nonneg _ (by have := hM1.out; omega), .inl (Int.emod_lt_of_pos _ hM1.out)⟩, hR, hT⟩
  · have q3 : decide ((p : Int) < (code.length : Int)) = false := decide_eq_false (by omega)
    have hL : 0 < code.length := by omega
    obtain ⟨I1, hI1⟩ := Int.eq_ofNat_of_zero_le (Int.emod_nonneg (p : Int) (show (code.length : Int) ≠ 0 by omega))
    obtain ⟨I2, hI2⟩ := Int.eq_ofNat_of_zero_le (Int.emod_nonneg ((p : Int) * 7 + 3) (show (code.length : Int) ≠ 0 by omega))
    obtain ⟨Q, hQ⟩ := Int.eq_ofNat_of_zero_le (Int.ediv_nonneg (show (0 : Int) ≤ (p : Int) by omega) (show (0 : Int) ≤ (code.length : Int) by omega))
    have hi1 : I1 < code.length := by have := Int.emod_lt_of_pos (p : Int) (show 0 < (code.length : Int) by omega); omega
    have hi2 : I2 < code.length := by have := Int.emod_lt_of_pos ((p : Int) * 7 + 3) (show 0 < (code.length : Int) by omega); omega
    have hq : Q ≤ p := by have := Int.ediv_le_self (code.length : Int) (show (0 : Int) ≤ (p : Int) by omega); omega
    obtain ⟨b, off, rfl, hbo, e0⟩ := at_UInt8 hN.sl hi1
    obtain ⟨b', off', hbe, hbo', e1⟩ := at_UInt8 hN.sl hi2
    injection hbe with hbe
    injection hbe with hb1 hb2
    subst hb1 hb2
    have hbl : b < w1.heap.size := Nat.lt_of_lt_of_le hbo.1 hN.bs
    have c0 := code[I1].toNat_lt
    have c1 := code[I2].toNat_lt
    generalize code[I1].toNat = B1 at *
    generalize code[I2].toNat = B2 at *
    have z0 : (0 : Int) ≤ (I1 : Int) := by omega
    have z1 : (I1 : Int) < (code.length : Int) := by omega
    have z2 : (0 : Int) ≤ (I2 : Int) := by omega
    have z3 : (I2 : Int) < (code.length : Int) := by omega
    have y0 : rb < w1.heap.size := Nat.lt_of_lt_of_le hN.lt hN.bs
    rw [← Int.tmod_eq_emod_of_nonneg (by omega)] at hI1 hI2
    rw [← Int.tdiv_eq_ediv_of_nonneg (by omega)] at hQ
    clear hN hbo hbo'
    have hpb : (p : Int) ≤ 1099511627776 := by omega
    have W7 : IntKind.i64.wrap ((p : Int) * 7) = (p : Int) * 7 := by rw [IntKind.wrap_i64]; omega
    have W8 : IntKind.i64.wrap ((p : Int) * 7 + 3) = (p : Int) * 7 + 3 := by rw [IntKind.wrap_i64]; omega
    have W1 : IntKind.i64.wrap ((B1 : Int) * 131) = (B1 : Int) * 131 := by rw [IntKind.wrap_i64]; omega
    have W2 : IntKind.i64.wrap ((B2 : Int) * 1117) = (B2 : Int) * 1117 := by rw [IntKind.wrap_i64]; omega
    have W3 : IntKind.i64.wrap ((B1 : Int) * 131 + (B2 : Int) * 1117) = (B1 : Int) * 131 + (B2 : Int) * 1117 := by rw [IntKind.wrap_i64]; omega
    have W4 : IntKind.i64.wrap ((p : Int) * 29) = (p : Int) * 29 := by rw [IntKind.wrap_i64]; omega
    have W5 : IntKind.i64.wrap ((B1 : Int) * 131 + (B2 : Int) * 1117 + (p : Int) * 29) = (B1 : Int) * 131 + (B2 : Int) * 1117 + (p : Int) * 29 := by rw [IntKind.wrap_i64]; omega
    have W6 : IntKind.i64.wrap ((Q : Int) * 53) = (Q : Int) * 53 := by rw [IntKind.wrap_i64]; omega
    obtain ⟨X, hX⟩ : ∃ X : Nat, X = B1 * 131 + B2 * 1117 + p * 29 + Q * 53 := ⟨_, rfl⟩
    have hXb : X < 1000000000000000 := by omega
    have W9 : IntKind.i64.wrap ((B1 : Int) * 131 + (B2 : Int) * 1117 + (p : Int) * 29 + (Q : Int) * 53) = (B1 : Int) * 131 + (B2 : Int) * 1117 + (p : Int) * 29 + (Q : Int) * 53 := by rw [IntKind.wrap_i64]; omega
    have HB := hide (show bits .xor .i64 ((B1 : Int) * 131 + (B2 : Int) * 1117 + (p : Int) * 29 + (Q : Int) * 53) (((B1 : Int) * 131 + (B2 : Int) * 1117 + (p : Int) * 29 + (Q : Int) * 53) / 64) = ((X ^^^ (X / 64) : Nat) : Int) by
      rw [show (B1 : Int) * 131 + (B2 : Int) * 1117 + (p : Int) * 29 + (Q : Int) * 53 = (X : Int) by omega, show (X : Int) / 64 = ((X / 64 : Nat) : Int) by omega]
      exact i64_xor_nat X (X / 64) (by omega) (by omega))
    clear hX
    go_upto_region 7 with fail
    have hS : ∀ w', Ext w1 w' → ∀ bb oo, bb < w1.heap.size → w'.cell? ⟨bb, oo, none⟩ = w1.cell? ⟨bb, oo, none⟩ := fun w' hx bb oo hb => hx.cell hb
    refine wp_region_plan (fun w' => Ext w1 w') 44 (.float 0 (.float 1 (.float 2 (.float 3 (.float 4 (.float 5 (.float 6 (.float 7 (.float 8 (.float 9 (.float 10 (.float 11 (.float 12 (.float 13 (.float 14 (.float 15 (.float 16 (.float 17 (.float 18 (.float 19 (.float 20 (.float 21 (.float 22 (.float 23 (.float 24 (.float 25 (.float 26 (.float 27 (.float 28 (.float 29 (.float 30 (.float 31 (.float 32 (.float 33 (.float 34 (.float 35 (.float 36 (.float 37 (.float 38 (.float 39 (.float 40 (.float 41 (.float 42 (.float 43 (.tail 44))))))))))))))))))))))))))))))))))))))))))))) (by kernel_rfl) (by kernel_rfl) (Ext.refl _).drew ?_
    iterate 44 ((refine Plan.float_step (v := ?_) rfl (by rfl) (fun _ _ _ h => h) (fun w' hSw => ?_) ?_; rotate_left; · (go_simp; try with_reducible rfl)); (try simp only [Act.put, List.setIfInBounds_toArray, List.set_cons_zero, List.set_cons_succ]))
    refine Plan.tail_step ?_
    simp only [List.drop_succ_cons, List.drop_zero]
    clear hS
    go_wp2
    go_ret
    refine ⟨⟨_, rfl, ?_⟩, hR.ext (Ext.refl _).drew, hT.drew⟩
    rw [HB.out, Int.tmod_eq_emod_of_nonneg (by omega)]
    exact ⟨Int.emod_nonneg _ (by have := hM1.out; omega), .inl (Int.emod_lt_of_pos _ hM1.out)⟩

end Go.Proofs.Ytmbclopkopfngaa

namespace Go.Proofs.Ytmbclopkopfngaa
open Go.RowKit

set_option linter.unusedVariables false
set_option linter.unusedSimpArgs false
set_option maxRecDepth 100000

theorem Bx.at_ {w : World} {b : Nat} {L : List Int} (h : Bx w b (L.map (Value.int .i64))) {v : Nat} (hv : v < L.length) : w.cell? ⟨b, v, none⟩ = some (.int .i64 L[v]) := h v _ (by rw [List.getElem?_map, List.getElem?_eq_getElem hv]; rfl)

theorem odd_any (rb base P : Nat) (w : World) (h : Rdr rb base P w) (hP : P ≤ 1099511627000) (n : Int) (hn : n ≤ 1099511627776) (hn0 : -1099511627776 ≤ n) :
    Calls Try.prog 36 #[.pointer (some ⟨rb, 0, none⟩), .int .i64 n] w fun e w' => (∃ b : Bool, e = .returned (.bool b)) ∧ Rdr rb base (P + 1) w' ∧ Turn [rb] w w' := by
  go_enter Try.func36, Try.ntmps36
  go_wp2_with fail
  refine (pick_any rb base P w h (by omega) n hn hn0).mono ?_
  rintro e w1 ⟨⟨v, rfl, hv⟩, hR, hT⟩
  go_wp2
  go_ret
  exact ⟨⟨_, rfl⟩, hR, hT⟩

set_option maxHeartbeats 4000000 in
theorem l20Word_any (rb base P : Nat) (w : World) (h : Rdr rb base P w) (hP : P ≤ 1099511627000) : Calls Try.prog 53 #[.pointer (some ⟨rb, 0, none⟩)] w fun e w' => (∃ v : Int, e = .returned (.int .i64 v) ∧ 0 ≤ v ∧ v < 65536) ∧ Rdr rb base (P + 3) w' ∧ Turn [rb] w w' := by
  have hlt := h.lt
  go_enter Try.func53, Try.ntmps53
  go_wp2_with fail
  refine (pick_any rb base P w h (by omega) 4 (by omega) (by omega)).mono ?_
  rintro e w1 ⟨⟨v, rfl, hv0, hv1⟩, hR, hT⟩
  have hv2 : v < 4 := by omega
  clear hv1
  have hc : v = 0 ∨ v = 1 ∨ v = 2 ∨ v = 3 := by omega
  clear hv0 hv2
  have big : (v = 2 ∨ v = 3) → True := fun _ => trivial
  rcases hc with rfl | rfl | hv
  · go_wp2_with fail
    refine (pick_any rb base _ _ (hR.ext Ext.auto) (by omega) 9 (by omega) (by omega)).mono ?_
    rintro e w2 ⟨⟨v, rfl, hv0, hv1⟩, hR2, hT2⟩
    have hlt1 := hR.lt
    have hs2 := hT2.size
    obtain ⟨V, rfl⟩ := Int.eq_ofNat_of_zero_le hv0
    have hV : V < 9 := by omega
    clear hv1 hv0
    have hBt : Bx w2 w1.heap.size (List.map (Value.int .i64) [0, 1, 2, 3, 65535, 32768, 255, 256, 65534]) := hT2.bx (Bx.new w1 #[.int .i64 0, .int .i64 1, .int .i64 2, .int .i64 3, .int .i64 65535, .int .i64 32768, .int .i64 255, .int .i64 256, .int .i64 65534] 3) (by simp) (by simp; omega)
    have hu := hBt.at_ (v := V) hV
    have yt : w1.heap.size < w2.heap.size := by simp at hs2; omega
    have z0 : (0 : Int) ≤ (V : Int) := by omega
    have z1 : (V : Int) < 9 := by omega
    have hb : ∀ x ∈ ([0, 1, 2, 3, 65535, 32768, 255, 256, 65534] : List Int), 0 ≤ x ∧ x < 65536 := by decide
    have hb2 := hb _ (List.getElem_mem (l := [0, 1, 2, 3, 65535, 32768, 255, 256, 65534]) (n := V) hV)
    clear hb
    generalize ([0, 1, 2, 3, 65535, 32768, 255, 256, 65534] : List Int)[V] = u at *
    go_wp2
    go_ret
    exact ⟨⟨u, rfl, hb2.1, hb2.2⟩, hR2.up (by omega), hT.trans (Turn.pre Ext.auto hT2)⟩
  · go_wp2_with fail
    refine (pick_any rb base _ _ hR (by omega) 70 (by omega) (by omega)).mono ?_
    rintro e w2 ⟨⟨v, rfl, hv0, hv1⟩, hR2, hT2⟩
    go_wp2
    go_ret
    exact ⟨⟨v, rfl, hv0, by omega⟩, hR2.up (by omega), hT.trans hT2⟩
  · have q0 : (v == 0) = false := by rcases hv with rfl | rfl <;> rfl
    have q1 : (v == 1) = false := by rcases hv with rfl | rfl <;> rfl
    clear hv
    go_wp2_with fail
    refine (pick_any rb base _ _ hR (by omega) 256 (by omega) (by omega)).mono ?_
    rintro e w2 ⟨⟨a, rfl, ha0, ha1⟩, hR2, hT2⟩
    have ha2 : a < 256 := by omega
    clear ha1
    go_wp2_with fail
    refine (pick_any rb base _ _ hR2 (by omega) 256 (by omega) (by omega)).mono ?_
    rintro e w3 ⟨⟨b, rfl, hb0, hb1⟩, hR3, hT3⟩
    have hb2 : b < 256 := by omega
    clear hb1
    go_wp2
    go_ret
    exact ⟨⟨_, rfl, by omega, by omega⟩, hR3.up (by omega), (hT.trans hT2).trans hT3⟩

end Go.Proofs.Ytmbclopkopfngaa

namespace Go.Proofs.Ytmbclopkopfngaa
open Go.RowKit

set_option linter.unusedVariables false
set_option linter.unusedSimpArgs false
set_option maxRecDepth 100000

theorem Gro.push {α : Type} [Flat α] {e : TypeId} {lo : Nat} {wa W w9 : World} {v v' : Value} {l : List α} {a : α} {Fs : List (List Nat)} {xs' : List Value} (h0 : wa.heap.size = 0) (hl : ∀ q, v.ownBlock = some q → lo ≤ q) (hW : lo ≤ W.heap.size) (hf : Fs.flatten = [])
    (h9 : App wa w9 e v' (l ++ [a]) (Fs ++ [[]]) xs') (hb : v'.ownBlock = v.ownBlock ∨ v'.ownBlock = some W.heap.size) : Gro e lo w9 v' (l ++ [a]) :=
  ⟨wa, _, xs', h0, ⟨h9, fun q hq => by
    rcases hb with hb | hb
    · exact hl q (hb ▸ hq)
    · rw [hb] at hq; injection hq with hq; omega, by simp [hf]⟩⟩

set_option maxHeartbeats 16000000 in
theorem l20Words_any (rb base P : Nat) (w : World) (h : Rdr rb base P w) (hP : P ≤ 1099511610000) (n : Int) (hn0 : 0 ≤ n) (hn : n ≤ 1000) :
    Calls Try.prog 35 #[.pointer (some ⟨rb, 0, none⟩), .int .i64 n] w fun e w' => (∃ v : Value, e = .returned v ∧ ∃ l : List Int, Gro 3 w.heap.size w' v l ∧ l.length = n.toNat ∧ (∀ x, x ∈ l → 0 ≤ x ∧ x < 65536)) ∧ Rdr rb base (P + 3 * n.toNat) w' ∧ Turn [rb] w w' := by
  obtain ⟨i0, hi, hz0, hz1, hz2⟩ := info_parts infInt
  have HI := hide hi
  have HZ0 := hide hz0
  have HZ1 := hide hz1
  have HZ2 := hide hz2
  clear hi hz0 hz1 hz2
  have hlt := h.lt
  have hlt1 := hlt.1
  have hlt2 := hlt.2
  have hG0 := Gro.empty (α := Int) w 3
  have hT0 : Turn [rb] w (w.alloc (.cells #[] 3)) := (Turn.refl _ _).alloc _
  have hR0 : Rdr rb base P (w.alloc (.cells #[] 3)) := h.ext ((Ext.refl w).alloc _)
  go_enter Try.func35, Try.ntmps35
  go_wp2
  go_loopw [5, 6] (fun vo vk wz => ∃ (l : List Int) (A : Option Addr) (c : Nat), vo = .slice A l.length c ∧ vk = .int .i64 (l.length : Int) ∧ (l.length : Int) ≤ n ∧ Hid (∀ x, x ∈ l → 0 ≤ x ∧ x < 65536) ∧ Gro 3 w.heap.size wz (.slice A l.length c) l ∧ Rdr rb base (P + 3 * l.length) wz ∧ Turn [rb] w wz) (fun _ vk _ => n.toNat - (intOf vk).toNat)
  case atStart => exact ⟨[], _, 0, rfl, rfl, by simpa using hn0, by intro x hx; simp at hx, hG0, hR0, hT0⟩
  case round =>
    obtain ⟨w1, hwr⟩ : ∃ w1 : World, w1 = wr := ⟨_, rfl⟩
    subst hwr
    obtain ⟨l, A, c, rfl, rfl, hkn, HB, hG, hR, hT⟩ := hrel
    have hGl := hG.lt
    have hsw := hT.size
    by_cases hlk : (l.length : Int) < n
    · have q1 : decide ((l.length : Int) < n) = true := decide_eq_true hlk
      go_wp2_with fail
      refine (l20Word_any rb base _ _ hR (by omega)).mono ?_
      rintro e w2 ⟨⟨v, rfl, hv0, hv1⟩, hR2, hy⟩
      have hG2 := hG.turn hy (fun q hq => by have := (hGl q hq).1; simp; omega)
      obtain ⟨wa, Fs, xs, h00, hA⟩ := hG2
      have hAf := hA.flat
      have hfit : Fits v := by unfold Fits; omega
      have hm := hA.app.row.1
      go_wp2_with (at_builtin; go_must (refine wpList_append_push2 (α := Int) (w0 := wa) (wr := w2) rfl _ _ 39 rfl i0 _ 8 Try.underlying39 HI.out HZ0.out HZ1.out HZ2.out rfl (by decide) hA.app rfl v #[.int .i64 v] 3 [] _ rfl Ext.auto ⟨⟨rfl, hfit⟩, rfl⟩ (Fr.nil _ _) (by repeat (first | (exact fun _ h => absurd h (List.not_mem_nil)) | (refine List.forall_mem_cons.2 ⟨rfl, ?_⟩))) (by unfold maxLen; omega) (by omega) ?_); intro v' w9 xs' hA9 hg9 hb9; have hG9 := Gro.push h00 (fun q hq => (hGl q hq).1) (by simp; have := hy.size; omega) hAf hA9 hb9; have hT9 := (Turn.of_grown (a := w2) (b := (w2.alloc (.cells #[.int .i64 v] 3))) Ext.auto hg9); obtain ⟨A9, c9, rfl, hl9, hm9⟩ := hG9.form; have hR9 := hR2.turn hT9 (fun q hq => by have := (hGl q (by simpa using hq)).1; omega); have hTw := (hT.trans hy).trans hT9 (fun q hq => .inr (hGl q (by simpa using hq)).1))
      have HB9 := hide (show ∀ x, x ∈ l ++ [v] → 0 ≤ x ∧ x < 65536 from fun x hx => by
        rcases List.mem_append.1 hx with hx | hx
        · exact HB.out x hx
        · simp at hx; subst hx; exact ⟨by omega, by omega⟩)
      have hll : (l ++ [v]).length = l.length + 1 := by simp
      go_round
      case rel => exact ⟨l ++ [v], A9, c9, by rw [hll], by rw [hll]; go_num, by omega, HB9, hG9, hR9.up (by omega), hTw⟩
      case measure => (simp [intOf]; try omega)
    · have q1 : decide ((l.length : Int) < n) = false := decide_eq_false hlk
      go_wp2
      go_ret
      exact ⟨⟨_, rfl, l, hG, by omega, HB.out⟩, hR.up (by omega), hT⟩

theorem Sl.take_ {α : Type} [Rep α] {w : World} {S : Nat → Prop} {A : Option Addr} {n c : Nat} {l : List α} (h : Sl w S (.slice A n c) l) {k : Nat} (hk : k ≤ l.length) : Sl w S (.slice A k c) (l.take k) := by
  obtain ⟨A', c', e, h1, h2, h3, h4⟩ := h
  injection e with e1 e2 e3
  subst e1 e3
  have hl : (l.take k).length = k := by rw [List.length_take]; omega
  refine ⟨A, c, by rw [hl], by rw [hl]; omega, h2, h3, fun hne => ?_⟩
  obtain ⟨b, off, q1, q2, q3⟩ := h4 (by intro q; subst q; exact hne (by simp))
  refine ⟨b, off, q1, q2, fun i a ha => ?_⟩
  rw [List.getElem?_take] at ha
  split at ha
  · exact q3 i a ha
  · simp at ha
theorem Rdr.new {w : World} {A : Option Addr} {c : Nat} {code : List UInt8} (h : Sl w (Old w) (.slice A code.length c) code) (hn : code.length ≤ 2000) (T : TypeId) : Rdr w.heap.size (w.heap.size + 1) 0 (w.alloc (.cells #[.slice A code.length c, .int .i64 0] T)) :=
  ⟨A, c, 0, code, {
    bx := Bx.new w #[.slice A code.length c, .int .i64 0] T
    fz := fz_new w #[.slice A code.length c, .int .i64 0] T rfl
    le := Nat.le_refl _, lt := by omega, bs := by simp
    sl := h.keep ((Ext.refl w).alloc _).old (fun b hb => ⟨Nat.lt_succ_of_lt hb, fun e => by subst e; exact absurd hb (Nat.lt_irrefl _)⟩)
    ln := hn }⟩

theorem l20Open_any (code : List UInt8) (v : Value) (w : World) (h : Sl w (Old w) v code) : Calls Try.prog 23 #[v] w fun e w' => e = .returned (.pointer (some ⟨w.heap.size, 0, none⟩)) ∧ Rdr w.heap.size (w.heap.size + 1) 0 w' ∧ Ext w w' := by
  obtain ⟨A, c, rfl, hl, hm⟩ := h.form
  unfold maxLen at hm
  by_cases hb : 2000 < code.length
  · have q1 : decide (2000 < (code.length : Int)) = true := decide_eq_true (by omega)
    have h2 := h.take_ (k := 2000) (by omega)
    have hl2 : (code.take 2000).length = 2000 := by rw [List.length_take]; omega
    have hR := Rdr.new (A := A) (c := c) (by rw [hl2]; exact h2) (by omega) 75
    rw [hl2] at hR
    have hc2 : 2000 ≤ c := by omega
    go_enter Try.func23, Try.ntmps23
    go_wp2
    go_ret
    exact ⟨rfl, hR, Ext.auto⟩
  · have q1 : decide (2000 < (code.length : Int)) = false := decide_eq_false (by omega)
    have hR := Rdr.new h (by omega) 75
    go_enter Try.func23, Try.ntmps23
    go_wp2
    go_ret
    exact ⟨rfl, hR, Ext.auto⟩

end Go.Proofs.Ytmbclopkopfngaa

namespace Go.Proofs.Ytmbclopkopfngaa
open Go.RowKit

set_option linter.unusedVariables false
set_option linter.unusedSimpArgs false
set_option maxRecDepth 100000

theorem Rdr.set {rb base P : Nat} {w : World} (h : Rdr rb base P w) {p : Addr} (hp : base ≤ p.block) (u : Value) : Rdr rb base P (w.setCell p u) := h.turn ((Turn.refl [p.block] w).set (.inl (by simp)) u) (by simpa using hp)
theorem Rdr.alloc {rb base P : Nat} {w : World} (h : Rdr rb base P w) (o : Obj) : Rdr rb base P (w.alloc o) := h.ext ((Ext.refl w).alloc o)
theorem Rdr.drew {rb base P : Nat} {w : World} (h : Rdr rb base P w) : Rdr rb base P w.drew := h.ext (Ext.refl w).drew
theorem Rdr.hold {rb base P : Nat} {w w' : World} (h : Rdr rb base P w) (k : Rdr rb base P w → Rdr rb base P w' := by intro h; (repeat' (first | (with_reducible exact h) | (with_reducible refine Rdr.alloc ?_ _) | (with_reducible refine Rdr.set ?_ ?_ _) | (with_reducible refine Rdr.drew ?_))); all_goals (first | omega | (simp; done) | (simp; omega))) : Rdr rb base P w' := k h

theorem Plan2.float_pre {P : Program} {Q : Exit → Act → World → Prop} {S : World → Prop} {ops : List Oper} {n i : Nat} {r : Plan2} {a : Act} {w : World} (h : (Plan2.float i r).wp P ops Q S n a w) : (Plan2.float i r).wp P ops Q S n a w := h
theorem Plan2.chain_pre {P : Program} {Q : Exit → Act → World → Prop} {S : World → Prop} {ops : List Oper} {n i : Nat} {r : Plan2} {a : Act} {w : World} (h : (Plan2.chain i r).wp P ops Q S n a w) : (Plan2.chain i r).wp P ops Q S n a w := h
theorem Plan2.stop_pre {P : Program} {Q : Exit → Act → World → Prop} {S : World → Prop} {ops : List Oper} {n : Nat} {a : Act} {w : World} : Plan2.stop.wp P ops Q S n a w := True.intro
/-- A slice that reads as a list; its blocks lie between two places. -/
def GlB {α : Type} [Rep α] (lo hi : Nat) (w : World) (v : Value) (L : List α) : Prop := Sl w (fun b => lo ≤ b ∧ b < hi) v L ∧ hi ≤ w.heap.size
section
variable {α : Type} [Own α] {lo hi : Nat} {w w' : World} {v : Value} {L : List α}
theorem GlB.of_gl (h : GlO lo w v L) : GlB lo w.heap.size w v L := ⟨h, Nat.le_refl _⟩
theorem GlB.of_own {w0 : World} {F : List Nat} (h : OwnSl w v L F) (hF : Fr w0 w F) : GlB w0.heap.size w.heap.size w v L := ⟨GlO.of_own h hF, Nat.le_refl _⟩
theorem GlB.gl (h : GlB lo hi w v L) : GlO lo w v L := h.1.keep (fun _ _ _ => rfl) (fun b hb => ⟨hb.1, Nat.lt_of_lt_of_le hb.2 h.2⟩)
theorem GlB.sl (h : GlB lo hi w v L) : Sl w (Old w) v L := h.gl.sl
theorem GlB.turn {F : List Nat} (h : GlB lo hi w v L) (k : Turn F w w') (hF : ∀ x, x ∈ F → x < lo ∨ hi ≤ x) : GlB lo hi w' v L :=
  ⟨(Sl.turn h.1 k (fun x hx => ⟨Nat.lt_of_lt_of_le hx.2 h.2, fun hm => by have := hF x hm; omega⟩)).keep (fun _ _ _ => rfl) (fun b hb => hb), Nat.le_trans h.2 k.size⟩
theorem GlB.ext (h : GlB lo hi w v L) (k : Ext w w') : GlB lo hi w' v L := h.turn (Turn.of_ext k []) (by simp)
theorem GlB.to {lo' : Nat} (h : GlB lo hi w v L) (hl : lo' ≤ lo) : GlB lo' w.heap.size w v L := ⟨h.1.keep (fun _ _ _ => rfl) (fun b hb => ⟨Nat.le_trans hl hb.1, Nat.lt_of_lt_of_le hb.2 h.2⟩), Nat.le_refl _⟩
theorem GlB.down {lo' : Nat} (h : GlB lo hi w v L) (hl : lo' ≤ lo) : GlB lo' hi w v L := ⟨h.1.keep (fun _ _ _ => rfl) (fun b hb => ⟨Nat.le_trans hl hb.1, hb.2⟩), h.2⟩
end
theorem Room.ge {lo sz : Nat} {e : TypeId} {w : World} {v : Value} (h : Room lo sz e w v) : ∀ q, v.ownBlock = some q → lo ≤ q := by
  intro q hq
  cases v with
  | slice a n c =>
    cases a with
    | none => simp [Value.ownBlock] at hq
    | some a =>
      obtain ⟨g, cur, rfl, hg, hh, -⟩ := h a n c rfl
      simp [Value.ownBlock] at hq
      subst hq
      exact hg
  | _ => simp [Value.ownBlock] at hq
/-- A table that is drawn: its own, with room, ok; its blocks lie between two places. -/
structure Tb (lo hi : Nat) (w : World) (v : Value) (t : TabTab) : Prop where
  own : ∃ F, OwnSl w v t.atoms F ∧ F.Nodup ∧ ∀ b, b ∈ F → lo ≤ b ∧ b < hi
  room : Room lo 4 30 w v
  top : ∀ q, v.ownBlock = some q → lo ≤ q ∧ q < hi
  up : hi ≤ w.heap.size
  ok : tabOkB t = true
  ge : 4 ≤ t.atoms.length
theorem Tb.turn {lo hi : Nat} {w w' : World} {v : Value} {t : TabTab} {F : List Nat} (h : Tb lo hi w v t) (k : Turn F w w') (hF : ∀ x, x ∈ F → x < lo ∨ hi ≤ x) : Tb lo hi w' v t := by
  obtain ⟨⟨G, h1, h2, h3⟩, h4, ht, hu, h5, h6⟩ := h
  refine ⟨⟨G, h1.stay (fun b hb => k.block b (Nat.lt_of_lt_of_le (h3 b hb).2 hu) (fun hm => by have := hF b hm; have := h3 b hb; omega)), h2, h3⟩, h4.turn k (fun q hq hm => by have := hF q hm; have := ht q hq; omega), ht, Nat.le_trans hu k.size, h5, h6⟩
theorem Tb.ext {lo hi : Nat} {w w' : World} {v : Value} {t : TabTab} (h : Tb lo hi w v t) (k : Ext w w') : Tb lo hi w' v t := h.turn (Turn.of_ext k []) (by simp)
theorem Tb.sl {lo hi : Nat} {w : World} {v : Value} {t : TabTab} (h : Tb lo hi w v t) : Sl w (Old w) v t.atoms := by
  obtain ⟨G, h1, -, h3⟩ := h.own
  exact h1.sl.keep (fun _ _ _ => rfl) (fun b hb => Nat.lt_of_lt_of_le (h3 b hb).2 h.up)
theorem Tb.down {lo lo' hi : Nat} {w : World} {v : Value} {t : TabTab} (h : Tb lo hi w v t) (hl : lo' ≤ lo) : Tb lo' hi w v t := by
  obtain ⟨⟨G, h1, h2, h3⟩, h4, ht, hu, h5, h6⟩ := h
  exact ⟨⟨G, h1, h2, fun b hb => ⟨Nat.le_trans hl (h3 b hb).1, (h3 b hb).2⟩⟩, h4.down hl, fun q hq => ⟨Nat.le_trans hl (ht q hq).1, (ht q hq).2⟩, hu, h5, h6⟩
theorem Tb.to {lo lo' hi : Nat} {w : World} {v : Value} {t : TabTab} (h : Tb lo hi w v t) (hl : lo' ≤ lo) : Tb lo' w.heap.size w v t := by
  obtain ⟨⟨G, h1, h2, h3⟩, h4, ht, hu, h5, h6⟩ := h.down hl
  exact ⟨⟨G, h1, h2, fun b hb => ⟨(h3 b hb).1, Nat.lt_of_lt_of_le (h3 b hb).2 hu⟩⟩, h4, fun q hq => ⟨(ht q hq).1, Nat.lt_of_lt_of_le (ht q hq).2 hu⟩, Nat.le_refl _, h5, h6⟩
theorem Tb.of_own {w0 w : World} {v : Value} {t : TabTab} {F : List Nat} (h : OwnSl w v t.atoms F) (hf : Fr w0 w F) (hr : Room w0.heap.size 4 30 w v) (ok : tabOkB t = true) (ge : 4 ≤ t.atoms.length) : Tb w0.heap.size w.heap.size w v t :=
  ⟨⟨F, h, hf.1, fun b hb => hf.2 b hb⟩, hr, fun q hq => ⟨hr.ge q hq, hr.lt q hq⟩, Nat.le_refl _, ok, ge⟩
theorem newTab_ok : tabOkB newTab = true := by decide
theorem newTab_four : newTab.atoms.length = 4 := by decide
theorem bare_ok {k a n : Int} (h1 : 2 ≤ k) (h2 : k < 4) (h3 : 0 ≤ a) (h4 : a < 3) : atomOkB ⟨k, a, ⟨[]⟩, ⟨[]⟩⟩ n = true := by
  unfold atomOkB
  rw [if_neg (show ¬ k = 1 by omega), if_pos (show k = 2 ∨ k = 3 by omega)]
  simp [inB, bareB]
  omega

theorem polUnder_no {p : TrmPoly} {n k : Int} (h : polUnderB p n = true) (hn : n ≤ 0) (hp : polOkB p = true) : polUnderB p k = true := by
  unfold polUnderB at h ⊢
  refine allB_yes fun j hj => ?_
  have h1 := allB_at h hj
  unfold monoUnderB at h1 ⊢
  have hs := (ok_sum hp).2 p.monos[j] (List.getElem_mem hj)
  rw [gM_at _ j hj] at h1 ⊢
  refine allB_yes fun i hi => ?_
  have h2 := allB_at h1 hi
  have h3 := hs.2.2 _ (List.getElem_mem hi)
  rw [gN_at _ _ hi] at h2 ⊢
  simp at h2 ⊢
  omega
theorem mono_ok {c : Int} (h0 : 1 ≤ c) (h1 : c ≤ 65535) (k : Int) : polOkB ⟨[⟨c, []⟩]⟩ = true ∧ polUnderB ⟨[⟨c, []⟩]⟩ k = true := by
  have hs : SumW 0 [⟨c, []⟩] := ⟨by simp, fun m hm => by simp at hm; subst hm; exact ⟨⟨h0, h1⟩, by simp, by simp⟩⟩
  have h := ok_of_sum (l := [⟨c, []⟩]) (by omega) hs (by unfold fitB; exact (by simp [allB_iff, gM]))
  exact ⟨h.1, polUnder_no h.2 (by omega) h.1⟩
theorem polC_ok {n : Int} (h0 : 0 ≤ n) (h1 : n ≤ 65535) (k : Int) : polOkB (polC n) = true ∧ polUnderB (polC n) k = true := by
  unfold polC
  split
  · exact ⟨by decide, by unfold polUnderB; exact allB_yes fun j hj => absurd hj (by simp)⟩
  · exact mono_ok (by omega) h1 k
theorem polK_ok {a n : Int} (h0 : 0 ≤ a) (h1 : a < n) (h2 : n ≤ 200) : polOkB (polK a) = true ∧ polUnderB (polK a) n = true := by
  have hs : SumW n (polK a).monos := ⟨by simp [polK], fun m hm => by simp [polK] at hm; subst hm; exact ⟨by constructor <;> simp, by simp, by simp; omega⟩⟩
  exact ok_of_sum h2 hs (by unfold fitB; exact (by simp [allB_iff, gM, polK]))

end Go.Proofs.Ytmbclopkopfngaa
