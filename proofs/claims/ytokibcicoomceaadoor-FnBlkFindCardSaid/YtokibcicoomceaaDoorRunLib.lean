/-
  Runs of a machine: what both sides need.
-/
import Derived.Test.YtokibcicoomceaaDoorMstLib
namespace Go.Proofs.YtokibcicoomceaaDoor
open Go.RowKit

set_option linter.unusedVariables false
set_option linter.unusedSimpArgs false
set_option maxRecDepth 100000

theorem has_next {l : List Int} {n : Int} {k : Nat} (hk : k < l.length) (h : ∀ a, a ∈ l.take k → a ≠ n) (hq : (l[k] == n) = false) : ∀ a, a ∈ l.take (k + 1) → a ≠ n := by
  intro a ha
  rw [List.take_succ_eq_append_getElem hk] at ha
  rcases List.mem_append.1 ha with ha | ha
  · exact h a ha
  · simp at ha; subst ha; simpa using hq
theorem has_yes {l : List Int} {n : Int} {k : Nat} (hk : k < l.length) (hq : (l[k] == n) = true) : hasI l n = true := by
  have : l[k] = n := by simpa using hq
  unfold hasI
  rw [List.contains_iff_mem, ← this]
  exact List.getElem_mem hk
theorem has_no {l : List Int} {n : Int} (h : ∀ a, a ∈ l.take l.length → a ≠ n) : hasI l n = false := by
  rw [List.take_length] at h
  unfold hasI
  rw [← Bool.not_eq_true, List.contains_iff_mem]
  exact fun q => h n q rfl
def Lens (m x : MchMach) : Prop := x.outs.length ≤ m.outs.length + 1 ∧ x.ins.length ≤ m.ins.length
theorem Lens.stop (m : MchMach) (k : Int) : Lens m (mStop m k) := by
  unfold mStop MchMach.next
  split
  · simp [Lens]
  split
  · simp [Lens]
  split
  · simp [Lens]
  · simp [Lens]
theorem Lens.reach (m : MchMach) (i : InsIns) : Lens m (mReach m i) := by
  unfold mReach MchMach.next MchMach.setR
  split
  · simp [Lens]
  · split
    · simp [Lens]
    · simp [Lens]
theorem Lens.port (m : MchMach) (i : InsIns) : Lens m (mPort m i) := by
  unfold mPort MchMach.next MchMach.setR
  split
  · simp [Lens]
  · simp [Lens]
theorem Lens.next (m : MchMach) (pc : Int) : Lens m (m.next pc) := by simp [Lens, MchMach.next]
theorem Lens.setR (m : MchMach) (d n pc : Int) : Lens m ((m.setR d n).next pc) := by simp [Lens, MchMach.next, MchMach.setR]
theorem mDo_lens (m : MchMach) (i : InsIns) : Lens m (mDo m i) := by
  unfold mDo
  split
  · exact Lens.stop m _
  split
  · exact Lens.setR m _ _ _
  split
  · exact Lens.setR m _ _ _
  split
  · exact Lens.setR m _ _ _
  split
  · exact Lens.reach m i
  split
  · exact Lens.next m _
  split
  · exact Lens.next m _
  split
  · exact Lens.next m _
  split
  · exact Lens.port m i
  · exact Lens.setR m _ _ _
theorem mAct_lens (m : MchMach) (irq : Bool) : (mAct m irq).outs.length ≤ m.outs.length + 1 ∧ (mAct m irq).ins.length ≤ m.ins.length := by
  have h := mSample_same m irq
  unfold mAct
  split
  · simp [h.2.2.1, h.2.2.2.1]
  split
  · have := mDo_lens (mSample m irq) (insOf ((mSample m irq).word (mSample m irq).pc))
    unfold Lens at this
    rw [h.2.2.1, h.2.2.2.1] at this
    exact this
  · simp [h.2.2.1, h.2.2.2.1]
theorem mRun_no {m : MchMach} {irqs : List Int} {n : Int} (h : mchOkB m = false) : mRun m irqs n = emptyMach := by unfold mRun; rw [h]; rfl
theorem mRun_long {m : MchMach} {irqs : List Int} {n : Int} (h : 400 < n) : mRun m irqs n = emptyMach := by unfold mRun; rw [decide_eq_true h]; simp
theorem mRun_iter {m : MchMach} {irqs : List Int} {n : Int} (h : mchOkB m = true) (hn : n ≤ 400) : mRun m irqs n = mIter irqs n.toNat m := by unfold mRun; rw [h, decide_eq_false (by omega)]; rfl
theorem mIter_step {m y : MchMach} {irqs : List Int} {n : Int} {k : Nat} (h : mRun m irqs n = mIter irqs (n.toNat - k) y) (hk : (k : Int) < n) (hy : mchOkB y = true) (hg : mGoes y = true) : mRun m irqs n = mIter irqs (n.toNat - (k + 1)) (mStep y (hasI irqs y.count)) := by
  rw [h, show n.toNat - k = (n.toNat - (k + 1)) + 1 by omega, mIter_goes hg, mStep_goes hy hg]
theorem mIter_end {m y : MchMach} {irqs : List Int} {n : Int} {k : Nat} (h : mRun m irqs n = mIter irqs (n.toNat - k) y) (hk : n ≤ (k : Int)) : mRun m irqs n = y := by
  rw [h, show n.toNat - k = 0 by omega]; rfl
theorem mIter_halt {m y : MchMach} {irqs : List Int} {n : Int} {k : Nat} (h : mRun m irqs n = mIter irqs (n.toNat - k) y) (hg : mGoes y = false) : mRun m irqs n = y := by
  rw [h, mIter_stays hg]
/-- A machine whose memory is the call's own, apart from some blocks. -/
def Own4 (X : List Nat) (lo : Nat) (w : World) (r1 r2 r3 r4 : Value) (m : MchMach) : Prop := ∃ F1 F2 F3 F4, OwnSl w r1 m.regs F1 ∧ OwnSl w r2 m.mem F2 ∧ OwnSl w r3 m.ins F3 ∧ OwnSl w r4 m.outs F4 ∧ (F1 ++ F2 ++ F3 ++ F4).Nodup ∧ (∀ b, b ∈ F1 ++ F2 ++ F3 ++ F4 → lo ≤ b ∧ b < w.heap.size ∧ b ∉ X)
namespace Own4
variable {X : List Nat} {lo : Nat} {w w' : World} {r1 r2 r3 r4 : Value} {m : MchMach}
theorem mk {a : World} {F1 F2 F3 F4 : List Nat} (h1 : OwnSl w r1 m.regs F1) (h2 : OwnSl w r2 m.mem F2) (h3 : OwnSl w r3 m.ins F3) (h4 : OwnSl w r4 m.outs F4) (hf : Fr a w (F1 ++ F2 ++ F3 ++ F4)) (hl : lo ≤ a.heap.size) (hX : ∀ x, x ∈ X → x < a.heap.size) : Own4 X lo w r1 r2 r3 r4 m :=
  ⟨F1, F2, F3, F4, h1, h2, h3, h4, hf.1, fun b hb => ⟨Nat.le_trans hl (hf.2 b hb).1, (hf.2 b hb).2, fun hm => by have := hX b hm; have := (hf.2 b hb).1; omega⟩⟩
theorem keep (h : Own4 X lo w r1 r2 r3 r4 m) (hs : w.heap.size ≤ w'.heap.size) (hk : ∀ b, b < w.heap.size → b ∉ X → w'.heap[b]? = w.heap[b]?) : Own4 X lo w' r1 r2 r3 r4 m := by
  obtain ⟨F1, F2, F3, F4, h1, h2, h3, h4, hn, hb⟩ := h
  have g : ∀ b, b ∈ F1 ++ F2 ++ F3 ++ F4 → w'.heap[b]? = w.heap[b]? := fun b hm => hk b (hb b hm).2.1 (hb b hm).2.2
  exact ⟨F1, F2, F3, F4, h1.stay (fun b hm => g b (by simp [hm])), h2.stay (fun b hm => g b (by simp [hm])), h3.stay (fun b hm => g b (by simp [hm])), h4.stay (fun b hm => g b (by simp [hm])), hn, fun b hm => ⟨(hb b hm).1, Nat.lt_of_lt_of_le (hb b hm).2.1 hs, (hb b hm).2.2⟩⟩
theorem ext (h : Own4 X lo w r1 r2 r3 r4 m) (k : Ext w w') : Own4 X lo w' r1 r2 r3 r4 m := h.keep k.size fun b hb _ => k.heap hb
theorem far (h : Own4 X lo w r1 r2 r3 r4 m) {p : Addr} (hp : p.block ∈ X) (u : Value) : Own4 X lo (w.setCell p u) r1 r2 r3 r4 m := h.keep (by simp) fun b _ hn => heap_set w p u b (fun e => hn (e ▸ hp))
theorem form (h : Own4 X lo w r1 r2 r3 r4 m) : ∃ (A1 A2 A3 A4 : Option Addr) (c1 c2 c3 c4 : Nat), r1 = .slice A1 m.regs.length c1 ∧ r2 = .slice A2 m.mem.length c2 ∧ r3 = .slice A3 m.ins.length c3 ∧ r4 = .slice A4 m.outs.length c4 := by
  obtain ⟨F1, F2, F3, F4, h1, h2, h3, h4, hn, hb⟩ := h
  obtain ⟨A1, c1, e1, -, -⟩ := h1.sl.form
  obtain ⟨A2, c2, e2, -, -⟩ := h2.sl.form
  obtain ⟨A3, c3, e3, -, -⟩ := h3.sl.form
  obtain ⟨A4, c4, e4, -, -⟩ := h4.sl.form
  exact ⟨A1, A2, A3, A4, c1, c2, c3, c4, e1, e2, e3, e4⟩
theorem sls (h : Own4 X lo w r1 r2 r3 r4 m) : Sl w (Old w) r1 m.regs ∧ Sl w (Old w) r2 m.mem ∧ Sl w (Old w) r3 m.ins ∧ Sl w (Old w) r4 m.outs := by
  obtain ⟨F1, F2, F3, F4, h1, h2, h3, h4, hn, hb⟩ := h
  exact ⟨h1.sl.keep (fun _ _ _ => rfl) (fun b hm => (hb b (by simp [hm])).2.1), h2.sl.keep (fun _ _ _ => rfl) (fun b hm => (hb b (by simp [hm])).2.1), h3.sl.keep (fun _ _ _ => rfl) (fun b hm => (hb b (by simp [hm])).2.1), h4.sl.keep (fun _ _ _ => rfl) (fun b hm => (hb b (by simp [hm])).2.1)⟩
theorem out (h : Own4 X lo w r1 r2 r3 r4 m) {a : World} (ha : a.heap.size ≤ lo) : ∃ F1 F2 F3 F4, OwnSl w r1 m.regs F1 ∧ OwnSl w r2 m.mem F2 ∧ OwnSl w r3 m.ins F3 ∧ OwnSl w r4 m.outs F4 ∧ Fr a w (F1 ++ F2 ++ F3 ++ F4) ∧ (∀ b, b ∈ F1 ++ F2 ++ F3 ++ F4 → b ∉ X) := by
  obtain ⟨F1, F2, F3, F4, h1, h2, h3, h4, hn, hb⟩ := h
  exact ⟨F1, F2, F3, F4, h1, h2, h3, h4, ⟨hn, fun b hm => ⟨Nat.le_trans ha (hb b hm).1, (hb b hm).2.1⟩⟩, fun b hm => (hb b hm).2.2⟩
theorem sets10 (h : Own4 X lo w r1 r2 r3 r4 m) {b : Nat} (hb : b ∈ X) (a0 a1 a2 a3 a4 a5 a6 a7 a8 a9 : Value) : Own4 X lo (((((((((((w.setCell ⟨b, 0, none⟩ a0).setCell ⟨b, 1, none⟩ a1).setCell ⟨b, 2, none⟩ a2).setCell ⟨b, 3, none⟩ a3).setCell ⟨b, 4, none⟩ a4).setCell ⟨b, 5, none⟩ a5).setCell ⟨b, 6, none⟩ a6).setCell ⟨b, 7, none⟩ a7).setCell ⟨b, 8, none⟩ a8).setCell ⟨b, 9, none⟩ a9)) r1 r2 r3 r4 m :=
  (((((((((h.far hb a0).far hb a1).far hb a2).far hb a3).far hb a4).far hb a5).far hb a6).far hb a7).far hb a8).far hb a9
end Own4

end Go.Proofs.YtokibcicoomceaaDoor
