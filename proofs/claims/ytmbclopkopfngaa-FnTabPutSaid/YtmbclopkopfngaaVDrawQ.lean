/-
  DrawQ
-/
import Derived.Test.YtmbclopkopfngaaVDoT
import Derived.Test.YtmbclopkopfngaaVRoom0Lib
import Derived.Test.YtmbclopkopfngaaVRead
import Derived.Test.YtmbclopkopfngaaVReg2Lib
import Derived.Deep.DeepCutAuto
namespace Go.Proofs.Ytmbclopkopfngaa
open Go.RowKit

set_option linter.unusedVariables false
set_option linter.unusedSimpArgs false
set_option maxRecDepth 100000

theorem Rdr.set {rb base P : Nat} {w : World} (h : Rdr rb base P w) {p : Addr} (hp : base ≤ p.block) (u : Value) : Rdr rb base P (w.setCell p u) := h.turn ((Turn.refl [p.block] w).set (.inl (by simp)) u) (by simpa using hp)
theorem Rdr.alloc {rb base P : Nat} {w : World} (h : Rdr rb base P w) (o : Obj) : Rdr rb base P (w.alloc o) := h.ext ((Ext.refl w).alloc o)
theorem Rdr.drew {rb base P : Nat} {w : World} (h : Rdr rb base P w) : Rdr rb base P w.drew := h.ext (Ext.refl w).drew
theorem Rdr.hold {rb base P : Nat} {w w' : World} (h : Rdr rb base P w) (k : Rdr rb base P w → Rdr rb base P w' := by intro h; (repeat' (first | (with_reducible exact h) | (with_reducible refine Rdr.alloc ?_ _) | (with_reducible refine Rdr.set ?_ ?_ _) | (with_reducible refine Rdr.drew ?_))); all_goals (first | omega | (simp; done) | (simp; omega))) : Rdr rb base P w' := k h

theorem Plan2.float_pre {P : Program} {Q : Exit → Act → World → Prop} {S : World → Prop} {ops : List Oper} {n i : Nat} {r : Plan2} {a : Act} {w : World} (h : (Plan2.float i r).wp P ops Q S n a w) : (Plan2.float i r).wp P ops Q S n a w := h
theorem Plan2.chain_pre {P : Program} {Q : Exit → Act → World → Prop} {S : World → Prop} {ops : List Oper} {n i : Nat} {r : Plan2} {a : Act} {w : World} (h : (Plan2.chain i r).wp P ops Q S n a w) : (Plan2.chain i r).wp P ops Q S n a w := h
theorem Plan2.stop_pre {P : Program} {Q : Exit → Act → World → Prop} {S : World → Prop} {ops : List Oper} {n : Nat} {a : Act} {w : World} : Plan2.stop.wp P ops Q S n a w := True.intro
/-- A slice that reads as a list; its blocks lie between two places. -/
def GlB {α : Type} [Rep α] (lo hi : Nat) (w : World) (v : Value) (L : List α) : Prop := Sl w (fun b => lo ≤ b ∧ b < hi) v L ∧ hi ≤ w.heap.size
section
variable {α : Type} [Own α] {lo hi : Nat} {w w' : World} {v : Value} {L : List α}
theorem GlB.of_gl (h : GlO lo w v L) : GlB lo w.heap.size w v L := ⟨h, Nat.le_refl _⟩
theorem GlB.of_own {w0 : World} {F : List Nat} (h : OwnSl w v L F) (hF : Fr w0 w F) : GlB w0.heap.size w.heap.size w v L := ⟨GlO.of_own h hF, Nat.le_refl _⟩
theorem GlB.gl (h : GlB lo hi w v L) : GlO lo w v L := h.1.keep (fun _ _ _ => rfl) (fun b hb => ⟨hb.1, Nat.lt_of_lt_of_le hb.2 h.2⟩)
theorem GlB.sl (h : GlB lo hi w v L) : Sl w (Old w) v L := h.gl.sl
theorem GlB.turn {F : List Nat} (h : GlB lo hi w v L) (k : Turn F w w') (hF : ∀ x, x ∈ F → x < lo ∨ hi ≤ x) : GlB lo hi w' v L :=
  ⟨(Sl.turn h.1 k (fun x hx => ⟨Nat.lt_of_lt_of_le hx.2 h.2, fun hm => by have := hF x hm; omega⟩)).keep (fun _ _ _ => rfl) (fun b hb => hb), Nat.le_trans h.2 k.size⟩
theorem GlB.ext (h : GlB lo hi w v L) (k : Ext w w') : GlB lo hi w' v L := h.turn (Turn.of_ext k []) (by simp)
theorem GlB.to {lo' : Nat} (h : GlB lo hi w v L) (hl : lo' ≤ lo) : GlB lo' w.heap.size w v L := ⟨h.1.keep (fun _ _ _ => rfl) (fun b hb => ⟨Nat.le_trans hl hb.1, Nat.lt_of_lt_of_le hb.2 h.2⟩), Nat.le_refl _⟩
theorem GlB.down {lo' : Nat} (h : GlB lo hi w v L) (hl : lo' ≤ lo) : GlB lo' hi w v L := ⟨h.1.keep (fun _ _ _ => rfl) (fun b hb => ⟨Nat.le_trans hl hb.1, hb.2⟩), h.2⟩
end
theorem Room.ge {lo sz : Nat} {e : TypeId} {w : World} {v : Value} (h : Room lo sz e w v) : ∀ q, v.ownBlock = some q → lo ≤ q := by
  intro q hq
  cases v with
  | slice a n c =>
    cases a with
    | none => simp [Value.ownBlock] at hq
    | some a =>
      obtain ⟨g, cur, rfl, hg, hh, -⟩ := h a n c rfl
      simp [Value.ownBlock] at hq
      subst hq
      exact hg
  | _ => simp [Value.ownBlock] at hq
/-- A table that is drawn: its own, with room, ok; its blocks lie between two places. -/
structure Tb (lo hi : Nat) (w : World) (v : Value) (t : TabTab) : Prop where
  own : ∃ F, OwnSl w v t.atoms F ∧ F.Nodup ∧ ∀ b, b ∈ F → lo ≤ b ∧ b < hi
  room : Room lo 4 30 w v
  top : ∀ q, v.ownBlock = some q → lo ≤ q ∧ q < hi
  up : hi ≤ w.heap.size
  ok : tabOkB t = true
  ge : 4 ≤ t.atoms.length
theorem Tb.turn {lo hi : Nat} {w w' : World} {v : Value} {t : TabTab} {F : List Nat} (h : Tb lo hi w v t) (k : Turn F w w') (hF : ∀ x, x ∈ F → x < lo ∨ hi ≤ x) : Tb lo hi w' v t := by
  obtain ⟨⟨G, h1, h2, h3⟩, h4, ht, hu, h5, h6⟩ := h
  refine ⟨⟨G, h1.stay (fun b hb => k.block b (Nat.lt_of_lt_of_le (h3 b hb).2 hu) (fun hm => by have := hF b hm; have := h3 b hb; omega)), h2, h3⟩, h4.turn k (fun q hq hm => by have := hF q hm; have := ht q hq; omega), ht, Nat.le_trans hu k.size, h5, h6⟩
theorem Tb.ext {lo hi : Nat} {w w' : World} {v : Value} {t : TabTab} (h : Tb lo hi w v t) (k : Ext w w') : Tb lo hi w' v t := h.turn (Turn.of_ext k []) (by simp)
theorem Tb.sl {lo hi : Nat} {w : World} {v : Value} {t : TabTab} (h : Tb lo hi w v t) : Sl w (Old w) v t.atoms := by
  obtain ⟨G, h1, -, h3⟩ := h.own
  exact h1.sl.keep (fun _ _ _ => rfl) (fun b hb => Nat.lt_of_lt_of_le (h3 b hb).2 h.up)
theorem Tb.down {lo lo' hi : Nat} {w : World} {v : Value} {t : TabTab} (h : Tb lo hi w v t) (hl : lo' ≤ lo) : Tb lo' hi w v t := by
  obtain ⟨⟨G, h1, h2, h3⟩, h4, ht, hu, h5, h6⟩ := h
  exact ⟨⟨G, h1, h2, fun b hb => ⟨Nat.le_trans hl (h3 b hb).1, (h3 b hb).2⟩⟩, h4.down hl, fun q hq => ⟨Nat.le_trans hl (ht q hq).1, (ht q hq).2⟩, hu, h5, h6⟩
theorem Tb.to {lo lo' hi : Nat} {w : World} {v : Value} {t : TabTab} (h : Tb lo hi w v t) (hl : lo' ≤ lo) : Tb lo' w.heap.size w v t := by
  obtain ⟨⟨G, h1, h2, h3⟩, h4, ht, hu, h5, h6⟩ := h.down hl
  exact ⟨⟨G, h1, h2, fun b hb => ⟨(h3 b hb).1, Nat.lt_of_lt_of_le (h3 b hb).2 hu⟩⟩, h4, fun q hq => ⟨(ht q hq).1, Nat.lt_of_lt_of_le (ht q hq).2 hu⟩, Nat.le_refl _, h5, h6⟩
theorem Tb.of_own {w0 w : World} {v : Value} {t : TabTab} {F : List Nat} (h : OwnSl w v t.atoms F) (hf : Fr w0 w F) (hr : Room w0.heap.size 4 30 w v) (ok : tabOkB t = true) (ge : 4 ≤ t.atoms.length) : Tb w0.heap.size w.heap.size w v t :=
  ⟨⟨F, h, hf.1, fun b hb => hf.2 b hb⟩, hr, fun q hq => ⟨hr.ge q hq, hr.lt q hq⟩, Nat.le_refl _, ok, ge⟩
theorem newTab_ok : tabOkB newTab = true := by decide
theorem newTab_four : newTab.atoms.length = 4 := by decide
theorem bare_ok {k a n : Int} (h1 : 2 ≤ k) (h2 : k < 4) (h3 : 0 ≤ a) (h4 : a < 3) : atomOkB ⟨k, a, ⟨[]⟩, ⟨[]⟩⟩ n = true := by
  unfold atomOkB
  rw [if_neg (show ¬ k = 1 by omega), if_pos (show k = 2 ∨ k = 3 by omega)]
  simp [inB, bareB]
  omega

theorem polUnder_no {p : TrmPoly} {n k : Int} (h : polUnderB p n = true) (hn : n ≤ 0) (hp : polOkB p = true) : polUnderB p k = true := by
  unfold polUnderB at h ⊢
  refine allB_yes fun j hj => ?_
  have h1 := allB_at h hj
  unfold monoUnderB at h1 ⊢
  have hs := (ok_sum hp).2 p.monos[j] (List.getElem_mem hj)
  rw [gM_at _ j hj] at h1 ⊢
  refine allB_yes fun i hi => ?_
  have h2 := allB_at h1 hi
  have h3 := hs.2.2 _ (List.getElem_mem hi)
  rw [gN_at _ _ hi] at h2 ⊢
  simp at h2 ⊢
  omega
theorem mono_ok {c : Int} (h0 : 1 ≤ c) (h1 : c ≤ 65535) (k : Int) : polOkB ⟨[⟨c, []⟩]⟩ = true ∧ polUnderB ⟨[⟨c, []⟩]⟩ k = true := by
  have hs : SumW 0 [⟨c, []⟩] := ⟨by simp, fun m hm => by simp at hm; subst hm; exact ⟨⟨h0, h1⟩, by simp, by simp⟩⟩
  have h := ok_of_sum (l := [⟨c, []⟩]) (by omega) hs (by unfold fitB; exact (by simp [allB_iff, gM]))
  exact ⟨h.1, polUnder_no h.2 (by omega) h.1⟩
theorem polC_ok {n : Int} (h0 : 0 ≤ n) (h1 : n ≤ 65535) (k : Int) : polOkB (polC n) = true ∧ polUnderB (polC n) k = true := by
  unfold polC
  split
  · exact ⟨by decide, by unfold polUnderB; exact allB_yes fun j hj => absurd hj (by simp)⟩
  · exact mono_ok (by omega) h1 k
theorem polK_ok {a n : Int} (h0 : 0 ≤ a) (h1 : a < n) (h2 : n ≤ 200) : polOkB (polK a) = true ∧ polUnderB (polK a) n = true := by
  have hs : SumW n (polK a).monos := ⟨by simp [polK], fun m hm => by simp [polK] at hm; subst hm; exact ⟨by constructor <;> simp, by simp, by simp; omega⟩⟩
  exact ok_of_sum h2 hs (by unfold fitB; exact (by simp [allB_iff, gM, polK]))

end Go.Proofs.Ytmbclopkopfngaa
