/-
  DrawTu
-/
import Derived.Test.YteaacelfnkiboaaZDrawBO
import Derived.Test.YteaacelfnkiboaaZBytesS
import Derived.Test.YteaacelfnkiboaaZByteLib
import Derived.Deep.DeepCutAuto
namespace Go.Proofs.Yteaacelfnkiboaa
open Go.RowKit

set_option linter.unusedVariables false
set_option linter.unusedSimpArgs false
set_option maxRecDepth 100000

theorem u8_wrap (y : UInt8) : IntKind.u8.wrap (y.toNat : Int) = (y.toNat : Int) := by
  have := y.toNat_lt
  rw [IntKind.wrap_u8]
  omega
theorem byte_of {x : Int} (h0 : 0 ≤ x) (h1 : x < 256) : ∃ y : UInt8, x = (y.toNat : Int) := ⟨UInt8.ofNat x.toNat, by
  rw [UInt8.toNat_ofNat']
  have : x.toNat % 2 ^ 8 = x.toNat := Nat.mod_eq_of_lt (by omega)
  rw [this]
  omega⟩
theorem GlO.lit1 {lo : Nat} {w : World} (y : UInt8) (t : TypeId) (g : Nat) (hg : g = w.heap.size) (hl : lo ≤ w.heap.size) : GlO lo (w.alloc (.cells #[.int .u8 (y.toNat : Int)] t)) (.slice (some ⟨g, 0, none⟩) 1 1) [y] := by
  subst hg
  refine ⟨_, 1, rfl, Nat.le_refl _, by decide, fun h => (by cases h), fun _ => ⟨w.heap.size, 0, rfl, ⟨hl, by simp⟩, fun i a ha => ?_⟩⟩
  cases i with
  | zero =>
    simp at ha
    subst ha
    refine ⟨_, rfl, fun j u hu => ?_⟩
    have := Bx.new w #[.int .u8 (y.toNat : Int)] t j u hu
    simpa using this
  | succ i => simp at ha
theorem Sl.dropM {α : Type} [Rep α] {w : World} {S : Nat → Prop} {A : Option Addr} {n c : Nat} {l : List α} (h : Sl w S (.slice A n c) l) {k : Nat} (hk : k ≤ l.length) (hsz : Rep.sz α = 1 := by rfl) :
    Sl w S (.slice (if c = k then A else Option.map (fun x => ({ block := x.block, off := x.off + k } : Addr)) A) (n - k) (c - k)) (l.drop k) := by
  have h' := h
  obtain ⟨A', c', h1, h2, h3, h0, h4⟩ := h
  injection h1 with e1 e2 e3
  subst e1 e2 e3
  by_cases hl : k < l.length
  · obtain ⟨b, off, rfl, -, -⟩ := h4 (by intro e; simp [e] at hl)
    rw [if_neg (by omega)]
    have := h'.drop hl
    rw [hsz, Nat.mul_one] at this
    exact this
  · have hn : l.drop k = [] := List.eq_nil_of_length_eq_zero (by rw [List.length_drop]; omega)
    refine ⟨_, _, by rw [List.length_drop], by rw [List.length_drop]; omega, by omega, fun ha => ?_, fun hne => absurd hn hne⟩
    cases A with
    | none => have := h0 rfl; omega
    | some a => split at ha <;> simp at ha
theorem Sl.dropA {α : Type} [Rep α] {w : World} {S : Nat → Prop} {A : Option Addr} {n c : Nat} {l : List α} (h : Sl w S (.slice A n c) l) {k : Nat} (hk : k ≤ l.length) (hsz : Rep.sz α = 1 := by rfl) :
    Sl w S (.slice (if c = k then A else Option.map (fun x => x.add k) A) (n - k) (c - k)) (l.drop k) := by
  by_cases hl : k < l.length
  · have h' := h
    obtain ⟨A', c', h1, h2, h3, h0, h4⟩ := h
    injection h1 with e1 e2 e3
    subst e1 e2 e3
    obtain ⟨b, off, rfl, -, -⟩ := h4 (by intro e; simp [e] at hl)
    have hm := Sl.dropM h' hk hsz
    rw [if_neg (by omega)] at hm ⊢
    have : (⟨b, off, none⟩ : Addr).add k = ⟨b, off + k, none⟩ := by
      unfold Addr.add
      by_cases h : k = 0 <;> simp [h]
    simp only [Option.map, this] at hm ⊢
    exact hm
  · have hm := Sl.dropM h hk hsz
    obtain ⟨A', c', h1, h2, h3, h0, h4⟩ := hm
    obtain ⟨A2, c2, g1, g2, g3, g0, -⟩ := h
    injection g1 with e1 e2 e3
    subst e1 e2 e3
    have hn : l.drop k = [] := List.eq_nil_of_length_eq_zero (by rw [List.length_drop]; omega)
    refine ⟨_, _, by rw [List.length_drop], by rw [List.length_drop]; omega, by omega, fun ha => ?_, fun hne => absurd hn hne⟩
    cases A with
    | none => have := g0 rfl; omega
    | some a => split at ha <;> simp at ha
theorem Gro.rowG {α : Type} [Flat α] {e lo : Nat} {w : World} {v : Value} {l : List α} (h : Gro e lo w v l) (hl : 0 < l.length) : ∃ g c, v = .slice (some ⟨g, 0, none⟩) l.length c ∧ lo ≤ g ∧ l.length ≤ c ∧ c ≤ maxLen ∧ FRow w g 0 l := by
  obtain ⟨wa, Fs, xs, h0, h⟩ := h
  obtain ⟨g, c', e1, h1, h2, h3, h4⟩ := h.app.toRow hl
  subst e1
  exact ⟨g, c', rfl, h.low g rfl, h1, h2, h4⟩
theorem Room.raise {lo' lo sz : Nat} {e : TypeId} {w : World} {v : Value} (h : Room lo' sz e w v) (hl : ∀ q, v.ownBlock = some q → lo ≤ q) : Room lo sz e w v := by
  intro a n c hv
  obtain ⟨g, cur, h0, hg, hh, hs⟩ := h a n c hv
  exact ⟨g, cur, h0, hl g (by rw [hv, h0]; rfl), hh, hs⟩
theorem Gro.of_app {α : Type} [Flat α] {lo : Nat} {wa wr : World} {e : TypeId} {v : Value} {l : List α} {Fs : List (List Nat)} {xs : List Value} (h : App wa wr e v l Fs xs) (hl : ∀ q, v.ownBlock = some q → lo ≤ q) : Gro e lo wr v l := by
  obtain ⟨F, hO, -⟩ := h.done4
  exact Gro.of_room hO ((Room.of_app h).raise hl)

set_option maxHeartbeats 16000000 in
theorem l21Turn_any (rb base P : Nat) (w : World) (h : Rdr rb base P w) (hP : P ≤ 1099511500000) (b : List UInt8) (vb : Value) (lo : Nat) (hb : GlO lo w vb b) (hrl : rb < lo) (hll : lo ≤ w.heap.size) (hbl : b.length ≤ 1000) :
    Calls Try.prog 43 #[.pointer (some ⟨rb, 0, none⟩), vb] w fun e w' => (∃ (v : Value) (L : List UInt8), e = .returned v ∧ GlO lo w' v L ∧ L.length ≤ 1001) ∧ Rdr rb base (P + 10) w' ∧ Turn [rb] w w' := by
  have hlt := h.lt
  have hlt1 := hlt.1
  have hlt2 := hlt.2
  clear hlt
  obtain ⟨Ab, cb, rfl, hcb, hmb⟩ := hb.sl.form
  unfold maxLen at hmb
  obtain ⟨i0, hi, hz0, hz1, hz2⟩ := info_parts infbUInt8
  have HI := hide hi
  have HZ0 := hide hz0
  have HZ1 := hide hz1
  have HZ2 := hide hz2
  clear hi hz0 hz1 hz2
  go_enter Try.func43, Try.ntmps43
  go_upto_region 1 with fail
  have he0 : Ext w w := Ext.refl _
  have hs0 : w.heap.size ≤ w.heap.size := Nat.le_refl _
  have hR0 : Rdr rb base P w := h.ext he0
  have hT0 : Turn [rb] w w := Turn.of_ext he0 _
  by_cases h0 : b.length = 0
  · 
    have q0 : ((b.length : Int) == 0) = true := by simp [h0]
    clear h0
    go_wp2_with fail
    refine (pick_any rb base _ _ (Rdr.hold hR0) (by omega) 256 (by omega) (by omega)).mono ?_
    rintro e w1 ⟨⟨x, rfl, lx, qx⟩, hR1, hy⟩
    have ux : x < 256 := by omega
    clear qx
    have hs1 := hy.size
    try simp at hs1
    have hT1 : Turn [rb] w w1 := (Turn.hold hT0).trans hy
    replace hb := GlO.turn (GlO.turn hb (Turn.of_ext Ext.auto []) (by simp)) hy (fun x hx => by simp at hx; omega)
    clear hy
    obtain ⟨y, rfl⟩ := byte_of lx ux
    go_wp2
    go_ret
    exact ⟨⟨_, [y], rfl, GlO.lit1 y _ _ rfl (by omega), by simp⟩, (Rdr.hold hR1).up (by omega), Turn.hold hT1⟩
  · 
    have q0 : ((b.length : Int) == 0) = false := beq_eq_false_iff_ne.2 (by omega)
    go_wp2_with fail
    refine (pick_any rb base _ _ (Rdr.hold hR0) (by omega) 256 (by omega) (by omega)).mono ?_
    rintro e w1 ⟨⟨x, rfl, lx, qx⟩, hR1, hy⟩
    have ux : x < 256 := by omega
    clear qx
    have hs1 := hy.size
    try simp at hs1
    have hT1 : Turn [rb] w w1 := (Turn.hold hT0).trans hy
    replace hb := GlO.turn (GlO.turn hb (Turn.of_ext Ext.auto []) (by simp)) hy (fun x hx => by simp at hx; omega)
    clear hy
    have zx : IntKind.i64.wrap (x * 256) = x * 256 := by rw [IntKind.wrap_i64]; omega
    go_wp2_with fail
    refine (pick_any rb base _ _ (Rdr.hold hR1) (by omega) 256 (by omega) (by omega)).mono ?_
    rintro e w2 ⟨⟨y, rfl, ly, qy⟩, hR2, hy⟩
    have uy : y < 256 := by omega
    clear qy
    have hs2 := hy.size
    try simp at hs2
    have hT2 : Turn [rb] w w2 := (Turn.hold hT1).trans hy
    replace hb := GlO.turn (GlO.turn hb (Turn.of_ext Ext.auto []) (by simp)) hy (fun x hx => by simp at hx; omega)
    clear hy
    have zy : IntKind.i64.wrap (x * 256 + y) = x * 256 + y := by rw [IntKind.wrap_i64]; omega
    go_upto_region 4 with fail
    have hk0 := Int.emod_nonneg (x * 256 + y) (show (b.length : Int) ≠ 0 by omega)
    have hk1 := Int.emod_lt_of_pos (x * 256 + y) (show 0 < (b.length : Int) by omega)
    generalize (x * 256 + y) % (b.length : Int) = kk at *
    obtain ⟨Q, rfl⟩ := Int.eq_ofNat_of_zero_le hk0
    have hQ : Q < b.length := by omega
    clear hk0 hk1 zx zy lx ux ly uy
    have zk0 : (0 : Int) ≤ (Q : Int) := by omega
    have zk1 : (Q : Int) < (b.length : Int) := by omega
    have zk2 : (Q : Int) ≤ (cb : Int) := by omega
    have zk3 : IntKind.i64.wrap ((Q : Int) + 1) = (Q : Int) + 1 := by rw [IntKind.wrap_i64]; omega
    have zk4 : (Q : Int) + 1 ≤ (b.length : Int) := by omega
    have zk5 : (b.length : Int) ≤ (cb : Int) := by omega
    have zk6 : (0 : Int) ≤ (Q : Int) + 1 := by omega
    go_wp2_with fail
    refine (pick_any rb base _ _ (Rdr.hold hR2) (by omega) 4 (by omega) (by omega)).mono ?_
    rintro e w3 ⟨⟨v, rfl, lv, qv⟩, hR3, hy⟩
    have uv : v < 4 := by omega
    clear qv
    have hs3 := hy.size
    try simp at hs3
    have hT3 : Turn [rb] w w3 := (Turn.hold hT2).trans hy
    replace hb := GlO.turn (GlO.turn hb (Turn.of_ext Ext.auto []) (by simp)) hy (fun x hx => by simp at hx; omega)
    clear hy
    have hc : v = 0 ∨ v = 1 ∨ (2 ≤ v ∧ v < 4) := by omega
    clear lv uv
    rcases hc with rfl | rfl | ⟨lv, uv⟩
    · 
      obtain ⟨Ad, hif⟩ : ∃ Ad, (if cb = (Q + 1) then Ab else Option.map (fun x => ({ block := x.block, off := x.off + (Q + 1) } : Addr)) Ab) = Ad := ⟨_, rfl⟩
      go_upto_region 6 with fail
      refine wp_region_plan (fun w' => Turn [rb] w3 w') 9 (.float 1 (.float 2 (.float 3 (.float 5 (.float 6 (.float 7 (.float 8 (.chain 0 (.chain 4 (.tail 9)))))))))) (by kernel_rfl) (by kernel_rfl) (Turn.of_ext (Ext.refl _).drew _) ?_
      have hbS : Sl w3 (fun x => lo ≤ x ∧ x < w3.heap.size) (.slice Ab b.length cb) b := hb
      have hlw : rb < w3.heap.size := by omega
      iterate 7 ((refine Plan.float_step (v := ?_) rfl (by rfl) (fun _ _ _ h => h) (fun w' hSw => ?_) ?_; rotate_left; · (go_simp; try with_reducible rfl)); (try simp only [Act.put, List.setIfInBounds_toArray, List.set_cons_zero, List.set_cons_succ]))
      refine Plan.chain_step rfl (fun K hK => ?_)
      go_simp
      have hxA : Ext w3 (w3.alloc (.cells #[] 5)).drew := Ext.auto
      refine hK.out _ _ (Turn.of_ext hxA _) ?_
      clear hK
      (try simp only [Act.put, List.setIfInBounds_toArray, List.set_cons_zero, List.set_cons_succ])
      have hG : Gro 5 w3.heap.size (w3.alloc (.cells #[] 5)).drew (.slice (some ⟨w3.heap.size, 0, none⟩) 0 0) ([] : List UInt8) := (Gro.empty (α := UInt8) w3 5).drew
      have hTq : Turn [] w3 (w3.alloc (.cells #[] 5)).drew := Turn.of_ext hxA _
      generalize (w3.alloc (.cells #[] 5)).drew = w4 at *
      have hTc : Turn [rb] w3 w4 := Turn.of_ext hxA _
      clear hxA
      have hs4 := hTq.size
      have hR4 := hR3.turn hTq (fun x hx => by simp at hx)
      have hT4 : Turn [rb] w w4 := hT3.trans hTq (fun x hx => .inr (by simp at hx))
      replace hbS : Sl w4 (fun x => lo ≤ x ∧ x < w3.heap.size) (.slice Ab b.length cb) b := (Sl.turn hbS hTq (fun x hx => ⟨by have := hx.2; omega, fun hm => by simp at hm⟩)).keep (fun _ _ _ => rfl) (fun _ h => h)
      clear hTq
      refine Plan.chain_step rfl (fun K hK => ?_)
      have hGlt := hG.lt
      obtain ⟨wa, Fs, xs, h00, hA⟩ := hG
      refine wp_append_flat3 (α := UInt8) (w0 := wa) _ _ 22 rfl i0 _ 1 Try.underlying22 HI.out HZ0.out HZ1.out HZ2.out rfl hA.app rfl (.slice Ab Q cb) (b.take Q) _ rfl ((Sl.take_ hbS (k := Q) (by omega))) (by unfold maxLen; first | omega | (simp; omega)) (by first | omega | (simp; omega)) ?_
      intro v' w5 Fs' xs' hA9 hg9 hb9
      have hG := Gro.of_app (lo := w3.heap.size) hA9 (fun q hq => by
        rcases hb9 with h | h
        · rw [h] at hq; exact (hGlt q hq).1
        · rw [h] at hq; injection hq with hq; omega)
      have hTq := Turn.of_grown (Ext.refl w4) hg9
      clear hA9 hg9 hb9 hA
      have hTd : Turn [rb] w3 w5 := hTc.trans hTq (fun x hx => .inr (hGlt x (by simpa using hx)).1)
      refine hK.out _ _ hTd ?_
      clear hK
      (try simp only [Act.put, List.setIfInBounds_toArray, List.set_cons_zero, List.set_cons_succ])
      have hs5 := hTq.size
      have hR5 := hR4.turn hTq (fun x hx => by have := (hGlt x (by simpa using hx)).1; omega)
      have hT5 : Turn [rb] w w5 := hT4.trans hTq (fun x hx => .inr (by have := (hGlt x (by simpa using hx)).1; omega))
      replace hbS : Sl w5 (fun x => lo ≤ x ∧ x < w3.heap.size) (.slice Ab b.length cb) b := (Sl.turn hbS hTq (fun x hx => ⟨by have := hx.2; omega, fun hm => by have := (hGlt x (by simpa using hm)).1; have := hx.2; omega⟩)).keep (fun _ _ _ => rfl) (fun _ h => h)
      clear hTc hTq hGlt
      have hTc := hTd
      clear hTd
      obtain ⟨L1, hL1⟩ : ∃ L1, L1 = ([] : List UInt8) ++ b.take Q := ⟨_, rfl⟩
      rw [← hL1] at hG
      have hlL1 : L1.length ≤ Q := by rw [hL1]; simp; try omega
      clear hL1
      obtain ⟨AL1, cL1, rfl, -, -⟩ := hG.form
      refine Plan.tail_step ?_
      simp only [List.drop_succ_cons, List.drop_zero]
      have hGlt := hG.lt
      obtain ⟨wa, Fs, xs, h00, hA⟩ := hG
      refine wpList_append_flat2 (α := UInt8) (w0 := wa) rfl _ _ 22 rfl i0 _ 1 Try.underlying22 HI.out HZ0.out HZ1.out HZ2.out rfl hA.app rfl (.slice Ad (b.length - (Q + 1)) (cb - (Q + 1))) (b.drop (Q + 1)) _ rfl ((by have := Sl.dropM hbS (k := (Q + 1)) (by omega); rw [hif] at this; exact this)) (by unfold maxLen; first | omega | (simp; omega)) (by first | omega | (simp; omega)) ?_
      intro v' w6 Fs' xs' hA9 hg9 hb9
      have hG := Gro.of_app (lo := w3.heap.size) hA9 (fun q hq => by
        rcases hb9 with h | h
        · rw [h] at hq; exact (hGlt q hq).1
        · rw [h] at hq; injection hq with hq; omega)
      have hTq := Turn.of_grown (Ext.refl w5) hg9
      clear hA9 hg9 hb9 hA
      have hTd : Turn [rb] w3 w6 := hTc.trans hTq (fun x hx => .inr (hGlt x (by simpa using hx)).1)
      have hs6 := hTq.size
      have hR6 := hR5.turn hTq (fun x hx => by have := (hGlt x (by simpa using hx)).1; omega)
      have hT6 : Turn [rb] w w6 := hT5.trans hTq (fun x hx => .inr (by have := (hGlt x (by simpa using hx)).1; omega))
      replace hbS : Sl w6 (fun x => lo ≤ x ∧ x < w3.heap.size) (.slice Ab b.length cb) b := (Sl.turn hbS hTq (fun x hx => ⟨by have := hx.2; omega, fun hm => by have := (hGlt x (by simpa using hm)).1; have := hx.2; omega⟩)).keep (fun _ _ _ => rfl) (fun _ h => h)
      clear hTc hTq hGlt
      have hTc := hTd
      clear hTd
      obtain ⟨L2, hL2⟩ : ∃ L2, L2 = L1 ++ b.drop (Q + 1) := ⟨_, rfl⟩
      rw [← hL2] at hG
      have hlL2 : L2.length ≤ Q + (b.length - (Q + 1)) := by rw [hL2]; simp; try omega
      clear hL2
      obtain ⟨AL2, cL2, rfl, -, -⟩ := hG.form
      go_wp2
      go_ret
      exact ⟨⟨_, L2, rfl, GlO.down (GlO.of_gro hG) (by omega), by omega⟩, hR6.up (by omega), hT6⟩
    · 
      have zk7 : Q ≤ b.length := by omega
      obtain ⟨Ad, hif⟩ : ∃ Ad, (if cb = Q then Ab else Option.map (fun x => x.add Q) Ab) = Ad := ⟨_, rfl⟩
      go_upto_region 8 with fail
      refine wp_region_plan (fun w' => Turn [rb] w3 w') 13 (.float 1 (.float 2 (.float 3 (.float 5 (.float 10 (.float 11 (.float 12 (.chain 0 (.chain 4 (.chain 6 (.float 7 (.chain 8 (.chain 9 (.tail 13)))))))))))))) (by kernel_rfl) (by kernel_rfl) (Turn.of_ext (Ext.refl _).drew _) ?_
      have hbS : Sl w3 (fun x => lo ≤ x ∧ x < w3.heap.size) (.slice Ab b.length cb) b := hb
      have hlw : rb < w3.heap.size := by omega
      iterate 7 ((refine Plan.float_step (v := ?_) rfl (by rfl) (fun _ _ _ h => h) (fun w' hSw => ?_) ?_; rotate_left; · (go_simp; try with_reducible rfl)); (try simp only [Act.put, List.setIfInBounds_toArray, List.set_cons_zero, List.set_cons_succ]))
      refine Plan.chain_step rfl (fun K hK => ?_)
      go_simp
      have hxA : Ext w3 (w3.alloc (.cells #[] 5)).drew := Ext.auto
      refine hK.out _ _ (Turn.of_ext hxA _) ?_
      clear hK
      (try simp only [Act.put, List.setIfInBounds_toArray, List.set_cons_zero, List.set_cons_succ])
      have hG : Gro 5 w3.heap.size (w3.alloc (.cells #[] 5)).drew (.slice (some ⟨w3.heap.size, 0, none⟩) 0 0) ([] : List UInt8) := (Gro.empty (α := UInt8) w3 5).drew
      have hTq : Turn [] w3 (w3.alloc (.cells #[] 5)).drew := Turn.of_ext hxA _
      generalize (w3.alloc (.cells #[] 5)).drew = w4 at *
      have hTc : Turn [rb] w3 w4 := Turn.of_ext hxA _
      clear hxA
      have hs4 := hTq.size
      have hR4 := hR3.turn hTq (fun x hx => by simp at hx)
      have hT4 : Turn [rb] w w4 := hT3.trans hTq (fun x hx => .inr (by simp at hx))
      replace hbS : Sl w4 (fun x => lo ≤ x ∧ x < w3.heap.size) (.slice Ab b.length cb) b := (Sl.turn hbS hTq (fun x hx => ⟨by have := hx.2; omega, fun hm => by simp at hm⟩)).keep (fun _ _ _ => rfl) (fun _ h => h)
      clear hTq
      refine Plan.chain_step rfl (fun K hK => ?_)
      have hGlt := hG.lt
      obtain ⟨wa, Fs, xs, h00, hA⟩ := hG
      refine wp_append_flat3 (α := UInt8) (w0 := wa) _ _ 22 rfl i0 _ 1 Try.underlying22 HI.out HZ0.out HZ1.out HZ2.out rfl hA.app rfl (.slice Ab Q cb) (b.take Q) _ rfl ((Sl.take_ hbS (k := Q) (by omega))) (by unfold maxLen; first | omega | (simp; omega)) (by first | omega | (simp; omega)) ?_
      intro v' w5 Fs' xs' hA9 hg9 hb9
      have hG := Gro.of_app (lo := w3.heap.size) hA9 (fun q hq => by
        rcases hb9 with h | h
        · rw [h] at hq; exact (hGlt q hq).1
        · rw [h] at hq; injection hq with hq; omega)
      have hTq := Turn.of_grown (Ext.refl w4) hg9
      clear hA9 hg9 hb9 hA
      have hTd : Turn [rb] w3 w5 := hTc.trans hTq (fun x hx => .inr (hGlt x (by simpa using hx)).1)
      refine hK.out _ _ hTd ?_
      clear hK
      (try simp only [Act.put, List.setIfInBounds_toArray, List.set_cons_zero, List.set_cons_succ])
      have hs5 := hTq.size
      have hR5 := hR4.turn hTq (fun x hx => by have := (hGlt x (by simpa using hx)).1; omega)
      have hT5 : Turn [rb] w w5 := hT4.trans hTq (fun x hx => .inr (by have := (hGlt x (by simpa using hx)).1; omega))
      replace hbS : Sl w5 (fun x => lo ≤ x ∧ x < w3.heap.size) (.slice Ab b.length cb) b := (Sl.turn hbS hTq (fun x hx => ⟨by have := hx.2; omega, fun hm => by have := (hGlt x (by simpa using hm)).1; have := hx.2; omega⟩)).keep (fun _ _ _ => rfl) (fun _ h => h)
      clear hTc hTq hGlt
      have hTc := hTd
      clear hTd
      obtain ⟨L1, hL1⟩ : ∃ L1, L1 = ([] : List UInt8) ++ b.take Q := ⟨_, rfl⟩
      rw [← hL1] at hG
      have hlL1 : L1.length ≤ Q := by rw [hL1]; simp; try omega
      clear hL1
      obtain ⟨AL1, cL1, rfl, -, -⟩ := hG.form
      refine Plan.chain_step rfl (fun K hK => ?_)
      go_simp
      refine (pick_any rb base _ _ (Rdr.hold hR5) (by omega) 9 (by omega) (by omega)).mono ?_
      rintro e w6 ⟨⟨m, rfl, lm, qm⟩, hR6, hy⟩
      have um : m < 9 := by omega
      clear qm
      have hTd : Turn [rb] w3 w6 := hTc.trans hy
      refine hK.out _ _ hTd ?_
      clear hK
      (try simp only [Act.put, List.setIfInBounds_toArray, List.set_cons_zero, List.set_cons_succ])
      have hs6 := hy.size
      have hT6 : Turn [rb] w w6 := hT5.trans hy
      replace hG := hG.turn hy (fun q hq => by have := (hG.lt q hq).1; simp; omega)
      replace hbS : Sl w6 (fun x => lo ≤ x ∧ x < w3.heap.size) (.slice Ab b.length cb) b := (Sl.turn hbS hy (fun x hx => ⟨by have := hx.2; omega, fun hm => by simp at hm; have := hx.1; omega⟩)).keep (fun _ _ _ => rfl) (fun _ h => h)
      clear hy hTc
      have hTc := hTd
      clear hTd
      obtain ⟨y, rfl⟩ := byte_of lm (by omega)
      have hw8 := u8_wrap y
      (refine Plan.float_step (v := ?_) rfl (by rfl) (fun _ _ _ h => h) (fun w' hSw => ?_) ?_; rotate_left; · (go_simp; try with_reducible rfl)); (try simp only [Act.put, List.setIfInBounds_toArray, List.set_cons_zero, List.set_cons_succ])
      refine Plan.chain_step rfl (fun K hK => ?_)
      go_simp
      have hxA : Ext w6 (w6.alloc (.cells #[.int .u8 (y.toNat : Int)] 5)) := Ext.auto
      refine hK.out _ _ (hTc.call hxA) ?_
      clear hK
      (try simp only [Act.put, List.setIfInBounds_toArray, List.set_cons_zero, List.set_cons_succ])
      have hY : GlO w6.heap.size (w6.alloc (.cells #[.int .u8 (y.toNat : Int)] 5)) (.slice (some ⟨w6.heap.size, 0, none⟩) 1 1) [y] := GlO.lit1 y _ _ rfl (Nat.le_refl _)
      replace hG := hG.ext hxA
      have hTq : Turn [] w6 (w6.alloc (.cells #[.int .u8 (y.toNat : Int)] 5)) := Turn.of_ext hxA _
      generalize (w6.alloc (.cells #[.int .u8 (y.toNat : Int)] 5)) = w7 at *
      replace hTc := hTc.call hxA
      clear hxA
      have hs7 := hTq.size
      have hR7 := hR6.turn hTq (fun x hx => by simp at hx)
      have hT7 : Turn [rb] w w7 := hT6.trans hTq (fun x hx => .inr (by simp at hx))
      replace hbS : Sl w7 (fun x => lo ≤ x ∧ x < w3.heap.size) (.slice Ab b.length cb) b := (Sl.turn hbS hTq (fun x hx => ⟨by have := hx.2; omega, fun hm => by simp at hm⟩)).keep (fun _ _ _ => rfl) (fun _ h => h)
      clear hTq
      refine Plan.chain_step rfl (fun K hK => ?_)
      have hGlt := hG.lt
      obtain ⟨wa, Fs, xs, h00, hA⟩ := hG
      refine wp_append_flat3 (α := UInt8) (w0 := wa) _ _ 22 rfl i0 _ 1 Try.underlying22 HI.out HZ0.out HZ1.out HZ2.out rfl hA.app rfl (.slice (some ⟨w6.heap.size, 0, none⟩) 1 1) ([y]) _ rfl (hY) (by unfold maxLen; first | omega | (simp; omega)) (by first | omega | (simp; omega)) ?_
      intro v' w8 Fs' xs' hA9 hg9 hb9
      have hG := Gro.of_app (lo := w3.heap.size) hA9 (fun q hq => by
        rcases hb9 with h | h
        · rw [h] at hq; exact (hGlt q hq).1
        · rw [h] at hq; injection hq with hq; omega)
      have hTq := Turn.of_grown (Ext.refl w7) hg9
      clear hA9 hg9 hb9 hA
      have hTd : Turn [rb] w3 w8 := hTc.trans hTq (fun x hx => .inr (hGlt x (by simpa using hx)).1)
      refine hK.out _ _ hTd ?_
      clear hK
      (try simp only [Act.put, List.setIfInBounds_toArray, List.set_cons_zero, List.set_cons_succ])
      have hs8 := hTq.size
      have hR8 := hR7.turn hTq (fun x hx => by have := (hGlt x (by simpa using hx)).1; omega)
      have hT8 : Turn [rb] w w8 := hT7.trans hTq (fun x hx => .inr (by have := (hGlt x (by simpa using hx)).1; omega))
      replace hbS : Sl w8 (fun x => lo ≤ x ∧ x < w3.heap.size) (.slice Ab b.length cb) b := (Sl.turn hbS hTq (fun x hx => ⟨by have := hx.2; omega, fun hm => by have := (hGlt x (by simpa using hm)).1; have := hx.2; omega⟩)).keep (fun _ _ _ => rfl) (fun _ h => h)
      clear hTc hTq hGlt
      have hTc := hTd
      clear hTd
      obtain ⟨L2, hL2⟩ : ∃ L2, L2 = L1 ++ [y] := ⟨_, rfl⟩
      rw [← hL2] at hG
      have hlL2 : L2.length ≤ Q + 1 := by rw [hL2]; simp; try omega
      clear hL2
      obtain ⟨AL2, cL2, rfl, -, -⟩ := hG.form
      refine Plan.tail_step ?_
      simp only [List.drop_succ_cons, List.drop_zero]
      have hGlt := hG.lt
      obtain ⟨wa, Fs, xs, h00, hA⟩ := hG
      refine wpList_append_flat2 (α := UInt8) (w0 := wa) rfl _ _ 22 rfl i0 _ 1 Try.underlying22 HI.out HZ0.out HZ1.out HZ2.out rfl hA.app rfl (.slice Ad (b.length - Q) (cb - Q)) (b.drop Q) _ rfl ((by have := Sl.dropA hbS (k := Q) (by omega); rw [hif] at this; exact this)) (by unfold maxLen; first | omega | (simp; omega)) (by first | omega | (simp; omega)) ?_
      intro v' w9 Fs' xs' hA9 hg9 hb9
      have hG := Gro.of_app (lo := w3.heap.size) hA9 (fun q hq => by
        rcases hb9 with h | h
        · rw [h] at hq; exact (hGlt q hq).1
        · rw [h] at hq; injection hq with hq; omega)
      have hTq := Turn.of_grown (Ext.refl w8) hg9
      clear hA9 hg9 hb9 hA
      have hTd : Turn [rb] w3 w9 := hTc.trans hTq (fun x hx => .inr (hGlt x (by simpa using hx)).1)
      have hs9 := hTq.size
      have hR9 := hR8.turn hTq (fun x hx => by have := (hGlt x (by simpa using hx)).1; omega)
      have hT9 : Turn [rb] w w9 := hT8.trans hTq (fun x hx => .inr (by have := (hGlt x (by simpa using hx)).1; omega))
      replace hbS : Sl w9 (fun x => lo ≤ x ∧ x < w3.heap.size) (.slice Ab b.length cb) b := (Sl.turn hbS hTq (fun x hx => ⟨by have := hx.2; omega, fun hm => by have := (hGlt x (by simpa using hm)).1; have := hx.2; omega⟩)).keep (fun _ _ _ => rfl) (fun _ h => h)
      clear hTc hTq hGlt
      have hTc := hTd
      clear hTd
      obtain ⟨L3, hL3⟩ : ∃ L3, L3 = L2 ++ b.drop Q := ⟨_, rfl⟩
      rw [← hL3] at hG
      have hlL3 : L3.length ≤ Q + 1 + (b.length - Q) := by rw [hL3]; simp; try omega
      clear hL3
      obtain ⟨AL3, cL3, rfl, -, -⟩ := hG.form
      go_wp2
      go_ret
      exact ⟨⟨_, L3, rfl, GlO.down (GlO.of_gro hG) (by omega), by omega⟩, hR9.up (by omega), hT9⟩
    · 
      have q5 : (v == 0) = false := by simp; omega
      have q6 : (v == 1) = false := by simp; omega
      have hbS : Sl w3 (fun x => lo ≤ x ∧ x < w3.heap.size) (.slice Ab b.length cb) b := hb
      have hxA : Ext w3 (w3.alloc (.cells #[] 5)) := Ext.auto
      have hG := Gro.empty (α := UInt8) w3 5
      have hGlt := hG.lt
      obtain ⟨wa, Fs, xs, h00, hA⟩ := hG
      have hb1 := hbS.keep (w' := (w3.alloc (.cells #[] 5))) (fun b o hb => hxA.cell hb.2) (fun _ h => h)
      go_upto_region 10 with (at_builtin; go_must (refine wpList_append_flat2 (α := UInt8) (w0 := wa) rfl _ _ 22 rfl i0 _ 1 Try.underlying22 HI.out HZ0.out HZ1.out HZ2.out rfl hA.app rfl (.slice Ab b.length cb) b _ rfl hb1 (by unfold maxLen; first | omega | (simp; omega)) (by first | omega | (simp; omega)) ?_); intro v' w4 Fs' xs' hA9 hg9 hb9)
      have hG := Gro.of_app (lo := w3.heap.size) hA9 (fun q hq => by
        rcases hb9 with h | h
        · rw [h] at hq; exact (hGlt q hq).1
        · rw [h] at hq; injection hq with hq; simp at hq; omega)
      have hTq := Turn.pre hxA (Turn.of_grown (Ext.refl _) hg9)
      clear hA9 hg9 hb9 hA hb1 hxA
      have hs4 := hTq.size
      have hR4 := hR3.turn hTq (fun x hx => by have := (hGlt x (by simpa using hx)).1; omega)
      have hT4 : Turn [rb] w w4 := hT3.trans hTq (fun x hx => .inr (by have := (hGlt x (by simpa using hx)).1; omega))
      replace hbS : Sl w4 (fun x => lo ≤ x ∧ x < w3.heap.size) (.slice Ab b.length cb) b := (Sl.turn hbS hTq (fun x hx => ⟨by have := hx.2; omega, fun hm => by have := (hGlt x (by simpa using hm)).1; have := hx.2; omega⟩)).keep (fun _ _ _ => rfl) (fun _ h => h)
      clear hTq hGlt
      obtain ⟨L1, hL1⟩ : ∃ L1, L1 = ([] : List UInt8) ++ b := ⟨_, rfl⟩
      rw [← hL1] at hG
      have hlL1 : L1.length ≤ 1000 := by rw [hL1]; simp; omega
      have hQ1 : Q < L1.length := by rw [hL1]; simp; omega
      clear hL1 hbS
      obtain ⟨AL1, cL1, rfl, -, -⟩ := hG.form
      go_wp2_with fail
      refine (pick_any rb base _ _ (Rdr.hold hR4) (by omega) 9 (by omega) (by omega)).mono ?_
      rintro e w5 ⟨⟨m1, rfl, lm1, qm1⟩, hR5, hy⟩
      have um1 : m1 < 9 := by omega
      clear qm1
      have hs5 := hy.size
      try simp at hs5
      have hT5 : Turn [rb] w w5 := (Turn.hold hT4).trans hy
      replace hG := Gro.turn (Gro.ext hG Ext.auto) hy (fun q hq => by have := (hG.lt q hq).1; simp; omega)
      clear hy
      go_wp2_with fail
      refine (pick_any rb base _ _ (Rdr.hold hR5) (by omega) 256 (by omega) (by omega)).mono ?_
      rintro e w6 ⟨⟨m2, rfl, lm2, qm2⟩, hR6, hy⟩
      have um2 : m2 < 256 := by omega
      clear qm2
      have hs6 := hy.size
      try simp at hs6
      have hT6 : Turn [rb] w w6 := (Turn.hold hT5).trans hy
      replace hG := Gro.turn (Gro.ext hG Ext.auto) hy (fun q hq => by have := (hG.lt q hq).1; simp; omega)
      clear hy
      go_wp2_with fail
      refine (pick_any rb base _ _ (Rdr.hold hR6) (by omega) 2 (by omega) (by omega)).mono ?_
      rintro e w7 ⟨⟨iq, rfl, liq, qiq⟩, hR7, hy⟩
      have uiq : iq < 2 := by omega
      clear qiq
      have hBt := hy.bx (Bx.new w6 #[.int .i64 m1, .int .i64 m2] 3) (by simp) (by simp; omega)
      have yt : w6.heap.size < w7.heap.size := by have := hy.size; simp at this; omega
      have hs7 := hy.size
      try simp at hs7
      have hT7 : Turn [rb] w w7 := (Turn.hold hT6).trans hy
      obtain ⟨Vq, rfl⟩ := Int.eq_ofNat_of_zero_le liq
      have hVq : Vq < 2 := by omega
      have hBt : Bx w7 w6.heap.size (List.map (Value.int .i64) [m1, m2]) := hBt
      have eq := hBt.at_ (v := Vq) hVq
      have hb : ∀ zz ∈ ([m1, m2] : List Int), 0 ≤ zz ∧ zz < 256 := by intro zz hzz; simp at hzz; omega
      have hb2 := hb _ (List.getElem_mem (l := [m1, m2]) (n := Vq) hVq)
      clear hb hBt
      generalize ([m1, m2] : List Int)[Vq] = q at *
      have lq := hb2.1
      have uq := hb2.2
      clear hb2
      have z0 : (0 : Int) ≤ (Vq : Int) := by omega
      have z1 : (Vq : Int) < 2 := by omega
      replace hG := Gro.turn (Gro.ext hG Ext.auto) hy (fun q hq => by have := (hG.lt q hq).1; simp; omega)
      clear hy
      obtain ⟨z, rfl⟩ := byte_of lq uq
      have hw8 := u8_wrap z
      obtain ⟨g2, c2, he2, hg2, hc2, hm2, hRow⟩ := Gro.rowG hG (by omega)
      injection he2 with he3 he4 he5
      subst he3 he5
      clear he4 hG
      have fg := hRow.fz
      have yg := hRow.lt
      obtain ⟨vs9, hv1, hv2⟩ := hRow.els Q _ (List.getElem?_eq_getElem hQ1)
      obtain rfl : vs9 = [.int .u8 (L1[Q].toNat : Int)] := hv1
      have hc9 : ∀ j u, [(Value.int .u8 (L1[Q].toNat : Int))][j]? = some u → w7.cell? ⟨g2, 0 + (Q * 1 + j), none⟩ = some u := hv2
      have hRow2 : FRow (w7.setCell ⟨g2, Q, none⟩ (.int .u8 (z.toNat : Int))) g2 0 (L1.set Q z) := hRow.put (j := 0) (S := fun _ => False) hQ1 z [.int .u8 (L1[Q].toNat : Int)] [.int .u8 (z.toNat : Int)] hc9 rfl (by decide) rfl rfl (by show Q = 0 + (Q * 1 + 0); omega)
      have xg0 : w7.cell? ⟨g2, Q, none⟩ = some (.int .u8 (L1[Q].toNat : Int)) := by have := hc9 0 _ rfl; rwa [show 0 + (Q * 1 + 0) = Q by omega] at this
      have zq0 : (Q : Int) < (L1.length : Int) := by omega
      clear hc9 hv2
      go_wp2
      go_ret
      exact ⟨⟨_, L1.set Q z, rfl, GlO.down (lo := w3.heap.size) (GlO.of_row hRow2 (by simp) (by simp; omega) hm2 hg2) (by omega), by simp; omega⟩, (Rdr.hold hR7).up (by omega), Turn.hold hT7⟩

end Go.Proofs.Yteaacelfnkiboaa
