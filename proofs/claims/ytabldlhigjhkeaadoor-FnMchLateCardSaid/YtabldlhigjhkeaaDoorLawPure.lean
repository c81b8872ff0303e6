/-
  What the laws on machines say, in plain words. No program in sight.
-/
import Derived.Test.YtabldlhigjhkeaaDoorRunLib
namespace Go.Proofs.YtabldlhigjhkeaaDoor
open Go.RowKit
set_option linter.unusedVariables false
set_option linter.unusedSimpArgs false

theorem mSample_off {m : MchMach} (h : m.waits = false) : mSample m false = m := by
  unfold mSample
  rw [h]
  simp only [Bool.or_self, Bool.false_and]
  cases m
  simp at h
  subst h
  rfl
/-- What an instruction does, by its kind. -/
theorem mDo_elim {P : MchMach → Prop} (m : MchMach) (i : InsIns) (h0 : i.op = 0 → P (mStop m i.k)) (hr : i.op ≠ 0 → i.op ≠ 13 → ∀ n, P ((m.setR i.d n).next (m.pc + 1))) (he : i.op = 9 ∨ i.op = 10 → P (mReach m i))
    (hif : i.op = 11 ∨ i.op = 12 → ∀ p, p = i.k ∨ p = m.pc + 1 → P (m.next p)) (hgo : i.op = 13 → P (m.next (m.reg i.a))) (hp : i.op = 14 ∨ i.op = 15 → P (mPort m i)) : P (mDo m i) := by
  unfold mDo
  by_cases c0 : i.op = 0
  · rw [if_pos c0]; exact h0 c0
  rw [if_neg c0]
  by_cases c1 : i.op = 1
  · rw [if_pos c1]; exact hr c0 (by omega) _
  rw [if_neg c1]
  by_cases c2 : i.op = 2
  · rw [if_pos c2]; exact hr c0 (by omega) _
  rw [if_neg c2]
  by_cases c8 : i.op = 8
  · rw [if_pos c8]; exact hr c0 (by omega) _
  rw [if_neg c8]
  by_cases c9 : i.op = 9 ∨ i.op = 10
  · rw [if_pos c9]; exact he c9
  rw [if_neg c9]
  by_cases c11 : i.op = 11
  · rw [if_pos c11]
    refine hif (.inl c11) _ ?_
    by_cases q : m.reg i.d = m.reg i.a
    · rw [if_pos q]; exact .inl rfl
    · rw [if_neg q]; exact .inr rfl
  rw [if_neg c11]
  by_cases c12 : i.op = 12
  · rw [if_pos c12]
    refine hif (.inr c12) _ ?_
    by_cases q : m.reg i.d < m.reg i.a
    · rw [if_pos q]; exact .inl rfl
    · rw [if_neg q]; exact .inr rfl
  rw [if_neg c12]
  by_cases c13 : i.op = 13
  · rw [if_pos c13]; exact hgo c13
  rw [if_neg c13]
  by_cases c14 : i.op = 14 ∨ i.op = 15
  · rw [if_pos c14]; exact hp c14
  rw [if_neg c14]
  exact hr c0 c13 _
theorem mStop_elim {P : MchMach → Prop} (m : MchMach) (k : Int) (h1 : k = 1 → P (({ m with lets := true } : MchMach).next m.save)) (h2 : k ≠ 1 → ∀ b, P (({ m with lets := b } : MchMach).next (m.pc + 1))) (h0 : k ≠ 1 → k ≠ 2 → k ≠ 3 → P (({ m with halt := 1 } : MchMach).next (m.pc + 1))) : P (mStop m k) := by
  unfold mStop
  by_cases c1 : k = 1
  · rw [if_pos c1]; exact h1 c1
  rw [if_neg c1]
  by_cases c2 : k = 2
  · rw [if_pos c2]; exact h2 c1 _
  rw [if_neg c2]
  by_cases c3 : k = 3
  · rw [if_pos c3]; exact h2 c1 _
  rw [if_neg c3]
  exact h0 c1 c2 c3
theorem mReach_elim {P : MchMach → Prop} (m : MchMach) (i : InsIns) (h1 : P { m with halt := 3 }) (h2 : ∀ n, P ((m.setR i.d n).next (m.pc + 1))) (h3 : ∀ a n, P (({ m with mem := m.mem.set a n } : MchMach).next (m.pc + 1))) : P (mReach m i) := by
  unfold mReach
  split
  · exact h1
  · split
    · exact h2 _
    · exact h3 _ _
theorem mPort_elim {P : MchMach → Prop} (m : MchMach) (i : InsIns) (h1 : ∀ n, P (({ m with outs := m.outs ++ [n] } : MchMach).next (m.pc + 1))) (h2 : ∀ n, P ((({ m with ins := m.ins.drop 1 } : MchMach).setR i.d n).next (m.pc + 1))) : P (mPort m i) := by
  unfold mPort
  split
  · exact h1 _
  · exact h2 _
theorem mDo_outs (m : MchMach) (i : InsIns) : (mDo m i).outs = m.outs ∨ ∃ n, (mDo m i).outs = m.outs ++ [n] := by
  apply mDo_elim (P := fun x => x.outs = m.outs ∨ ∃ n, x.outs = m.outs ++ [n])
  · intro _; exact mStop_elim (P := fun x => x.outs = m.outs ∨ ∃ n, x.outs = m.outs ++ [n]) m _ (fun _ => .inl rfl) (fun _ _ => .inl rfl) (fun _ _ _ => .inl rfl)
  · intro _ _ _; exact .inl rfl
  · intro _; exact mReach_elim (P := fun x => x.outs = m.outs ∨ ∃ n, x.outs = m.outs ++ [n]) m i (.inl rfl) (fun _ => .inl rfl) (fun _ _ => .inl rfl)
  · intro _ _ _; exact .inl rfl
  · intro _; exact .inl rfl
  · intro _; exact mPort_elim (P := fun x => x.outs = m.outs ∨ ∃ n, x.outs = m.outs ++ [n]) m i (fun n => .inr ⟨n, rfl⟩) (fun _ => .inl rfl)
theorem mDo_ins (m : MchMach) (i : InsIns) : (mDo m i).ins = m.ins ∨ (0 < m.ins.length ∧ (mDo m i).ins = m.ins.drop 1) := by
  have h : (mDo m i).ins = m.ins ∨ (mDo m i).ins = m.ins.drop 1 := by
    apply mDo_elim (P := fun x => x.ins = m.ins ∨ x.ins = m.ins.drop 1)
    · intro _; exact mStop_elim (P := fun x => x.ins = m.ins ∨ x.ins = m.ins.drop 1) m _ (fun _ => .inl rfl) (fun _ _ => .inl rfl) (fun _ _ _ => .inl rfl)
    · intro _ _ _; exact .inl rfl
    · intro _; exact mReach_elim (P := fun x => x.ins = m.ins ∨ x.ins = m.ins.drop 1) m i (.inl rfl) (fun _ => .inl rfl) (fun _ _ => .inl rfl)
    · intro _ _ _; exact .inl rfl
    · intro _; exact .inl rfl
    · intro _; exact mPort_elim (P := fun x => x.ins = m.ins ∨ x.ins = m.ins.drop 1) m i (fun n => .inl rfl) (fun _ => .inr rfl)
  rcases h with h | h
  · exact .inl h
  · by_cases h0 : 0 < m.ins.length
    · exact .inr ⟨h0, h⟩
    · have : m.ins = [] := List.eq_nil_of_length_eq_zero (by omega)
      left
      rw [h, this]
      rfl
theorem mAct_form (m : MchMach) (b : Bool) : mAct m b = { mSample m b with halt := 4 } ∨ mAct m b = { mSample m b with halt := 2 } ∨ mAct m b = mDo (mSample m b) (insOf ((mSample m b).word (mSample m b).pc)) := by
  unfold mAct
  split
  · exact .inl rfl
  · split
    · exact .inr (.inr rfl)
    · exact .inr (.inl rfl)
theorem mStep_outs {m : MchMach} (hk : MOk m) (b : Bool) : (mStep m b).outs = m.outs ∨ ∃ n, (mStep m b).outs = m.outs ++ [n] := by
  have ho := (mSample_same m b).2.2.2.1
  cases hg : mGoes m
  · rw [mStep_stays (mOk_iff.2 hk) hg]; exact .inl rfl
  · rw [mStep_goes (mOk_iff.2 hk) hg]
    rcases mAct_form m b with h | h | h
    · rw [h]; exact .inl ho
    · rw [h]; exact .inl ho
    · rw [h, ← ho]; exact mDo_outs _ _
theorem mStep_ins {m : MchMach} (hk : MOk m) (b : Bool) : (mStep m b).ins = m.ins ∨ (0 < m.ins.length ∧ (mStep m b).ins = m.ins.drop 1) := by
  have ho := (mSample_same m b).2.2.1
  cases hg : mGoes m
  · rw [mStep_stays (mOk_iff.2 hk) hg]; exact .inl rfl
  · rw [mStep_goes (mOk_iff.2 hk) hg]
    rcases mAct_form m b with h | h | h
    · rw [h]; exact .inl ho
    · rw [h]; exact .inl ho
    · rw [h, ← ho]; exact mDo_ins _ _
/-- Behind a step that counts the machine goes on, or has stopped; one that does not count has met what there is not. -/
def Counted (m x : MchMach) : Prop := (x.count = m.count + 1 ∧ (x.halt = 0 ∨ x.halt = 1)) ∨ (x.count = m.count ∧ x.halt = 3 ∧ x.regs = m.regs ∧ x.mem = m.mem ∧ x.outs = m.outs)
theorem mDo_count (m : MchMach) (i : InsIns) (h : m.halt = 0) : ((mDo m i).count = m.count + 1 ∧ ((mDo m i).halt = 0 ∨ (mDo m i).halt = 1)) ∨ ((mDo m i).count = m.count ∧ (mDo m i).halt = 3 ∧ (mDo m i).regs = m.regs ∧ (mDo m i).mem = m.mem ∧ (mDo m i).outs = m.outs) := by
  apply mDo_elim (P := Counted m)
  · intro _; exact mStop_elim (P := Counted m) m _ (fun _ => .inl ⟨rfl, .inl h⟩) (fun _ _ => .inl ⟨rfl, .inl h⟩) (fun _ _ _ => .inl ⟨rfl, .inr rfl⟩)
  · intro _ _ _; exact .inl ⟨rfl, .inl h⟩
  · intro _; exact mReach_elim (P := Counted m) m i (.inr ⟨rfl, rfl, rfl, rfl, rfl⟩) (fun _ => .inl ⟨rfl, .inl h⟩) (fun _ _ => .inl ⟨rfl, .inl h⟩)
  · intro _ _ _; exact .inl ⟨rfl, .inl h⟩
  · intro _; exact .inl ⟨rfl, .inl h⟩
  · intro _; exact mPort_elim (P := Counted m) m i (fun n => .inl ⟨rfl, .inl h⟩) (fun _ => .inl ⟨rfl, .inl h⟩)
theorem mSample_halt (m : MchMach) (b : Bool) : (mSample m b).halt = m.halt := by unfold mSample; split <;> rfl
theorem mStep_count {m : MchMach} (hk : MOk m) (hg : mGoes m = true) (b : Bool) : ((mStep m b).count = m.count + 1 ∧ ((mStep m b).halt = 0 ∨ (mStep m b).halt = 1)) ∨ ((mStep m b).count = m.count ∧ 2 ≤ (mStep m b).halt ∧ (mStep m b).regs = m.regs ∧ (mStep m b).mem = m.mem ∧ (mStep m b).outs = m.outs) := by
  have ho := mSample_same m b
  have hh := mSample_halt m b
  have h0 := (mGoes_iff.1 hg).1
  rw [mStep_goes (mOk_iff.2 hk) hg]
  rcases mAct_form m b with h | h | h
  · rw [h]; exact .inr ⟨ho.2.2.2.2, (by decide : (2 : Int) ≤ 4), ho.1, ho.2.1, ho.2.2.2.1⟩
  · rw [h]; exact .inr ⟨ho.2.2.2.2, (by decide : (2 : Int) ≤ 2), ho.1, ho.2.1, ho.2.2.2.1⟩
  · rw [h]
    rcases mDo_count (mSample m b) (insOf ((mSample m b).word (mSample m b).pc)) (hh.trans h0) with ⟨h1, h2⟩ | ⟨h1, h2, h3, h4, h5⟩
    · exact .inl ⟨by rw [h1, ho.2.2.2.2], h2⟩
    · exact .inr ⟨by rw [h1, ho.2.2.2.2], by rw [h2]; decide, by rw [h3, ho.1], by rw [h4, ho.2.1], by rw [h5, ho.2.2.2.1]⟩
theorem mStep_ok {m : MchMach} (hk : MOk m) (b : Bool) : mchOkB (mStep m b) = true := by
  cases hg : mGoes m
  · rw [mStep_stays (mOk_iff.2 hk) hg]; exact mOk_iff.2 hk
  · rw [mStep_goes (mOk_iff.2 hk) hg]; exact mOk_act (mOk_iff.2 hk) hg b
/-! One turned thing at most -/
def diffs : Nat → List Int → List Int → Nat
  | 0, _, _ => 0
  | k + 1, a, b => diffs k a b + (if a[k]? = b[k]? then 0 else 1)
theorem diffs_lek : ∀ (k : Nat) (a b : List Int), diffs k a b ≤ k
  | 0, _, _ => Nat.le_refl _
  | k + 1, a, b => by have := diffs_lek k a b; unfold diffs; split <;> omega
theorem diffs_same (k : Nat) (a : List Int) : diffs k a a = 0 := by
  induction k with
  | zero => rfl
  | succ k ih => unfold diffs; rw [ih, if_pos rfl]
theorem diffs_set (a : List Int) (d : Nat) (n : Int) : ∀ k, diffs k (a.set d n) a ≤ (if d < k then 1 else 0)
  | 0 => by simp [diffs]
  | k + 1 => by
    have ih := diffs_set a d n k
    unfold diffs
    by_cases hd : d = k
    · subst hd
      rw [if_neg (Nat.lt_irrefl d)] at ih
      rw [if_pos (Nat.lt_succ_self d)]
      split <;> omega
    · rw [List.getElem?_set_ne hd, if_pos rfl]
      by_cases h1 : d < k
      · rw [if_pos h1] at ih; rw [if_pos (by omega)]; omega
      · rw [if_neg h1] at ih; rw [if_neg (by omega)]; omega
theorem diffs_le (a : List Int) (d : Nat) (n : Int) (k : Nat) : diffs k (a.set d n) a ≤ 1 := by
  have := diffs_set a d n k
  split at this <;> omega
theorem diffs_next {a b : List Int} {k : Nat} (ha : k < a.length) (hb : k < b.length) : diffs (k + 1) a b = diffs k a b + (if a[k] = b[k] then 0 else 1) := by
  rw [diffs, List.getElem?_eq_getElem ha, List.getElem?_eq_getElem hb]
  by_cases h : a[k] = b[k]
  · rw [if_pos (by rw [h]), if_pos h]
  · rw [if_neg (fun e => h (Option.some.inj e)), if_neg h]
def One (m x : MchMach) : Prop := (x.mem = m.mem ∧ ∃ d n, x.regs = m.regs.set d n) ∨ (x.regs = m.regs ∧ ∃ a n, x.mem = m.mem.set a n)
theorem set_self (l : List Int) : ∃ d n, l = l.set d n := ⟨l.length, 0, by rw [List.set_eq_of_length_le (Nat.le_refl _)]⟩
theorem One.refl {m x : MchMach} (h1 : x.regs = m.regs) (h2 : x.mem = m.mem) : One m x := by
  left
  obtain ⟨d, n, h⟩ := set_self m.regs
  exact ⟨h2, d, n, h1.trans h⟩
theorem mDo_one (m : MchMach) (i : InsIns) : One m (mDo m i) := by
  apply mDo_elim (P := One m)
  · intro _; exact mStop_elim (P := One m) m _ (fun _ => One.refl rfl rfl) (fun _ _ => One.refl rfl rfl) (fun _ _ _ => One.refl rfl rfl)
  · intro _ _ n; exact .inl ⟨rfl, _, n, rfl⟩
  · intro _; exact mReach_elim (P := One m) m i (One.refl rfl rfl) (fun n => .inl ⟨rfl, _, n, rfl⟩) (fun a n => .inr ⟨rfl, a, n, rfl⟩)
  · intro _ _ _; exact One.refl rfl rfl
  · intro _; exact One.refl rfl rfl
  · intro _; exact mPort_elim (P := One m) m i (fun n => One.refl rfl rfl) (fun n => .inl ⟨rfl, _, n, rfl⟩)
theorem mStep_one {m : MchMach} (hk : MOk m) (b : Bool) : diffs 4 (mStep m b).regs m.regs + diffs 64 (mStep m b).mem m.mem ≤ 1 := by
  have hs := mSample_same m b
  have h1 : One m (mStep m b) := by
    cases hg : mGoes m
    · rw [mStep_stays (mOk_iff.2 hk) hg]; exact One.refl rfl rfl
    · rw [mStep_goes (mOk_iff.2 hk) hg]
      rcases mAct_form m b with h | h | h
      · rw [h]; exact One.refl hs.1 hs.2.1
      · rw [h]; exact One.refl hs.1 hs.2.1
      · rw [h]
        have := mDo_one (mSample m b) (insOf ((mSample m b).word (mSample m b).pc))
        unfold One at this ⊢
        rw [hs.1, hs.2.1] at this
        exact this
  rcases h1 with ⟨e, d, n, h⟩ | ⟨e, d, n, h⟩
  · rw [e, h, diffs_same]; have := diffs_le m.regs d n 4; omega
  · rw [e, h, diffs_same]; have := diffs_le m.mem d n 64; omega
/-! Where it goes on -/
theorem mNext_no {m : MchMach} (hk : MOk m) (hg : mGoes m = true) (hw : m.waits = false) (hp : m.pc < 64) (h : insTakeB (m.word m.pc) = false) : (mStep m false).halt = 2 ∧ (mStep m false).pc = m.pc := by
  rw [mStep_goes (mOk_iff.2 hk) hg]
  unfold mAct
  rw [mSample_off hw, if_neg (by omega), h]
  exact ⟨rfl, rfl⟩
theorem mNext_do {m : MchMach} (hk : MOk m) (hg : mGoes m = true) (hw : m.waits = false) (hp : m.pc < 64) (h : insTakeB (m.word m.pc) = true) : mStep m false = mDo m (insTake (m.word m.pc)) ∧ insOkB (insTake (m.word m.pc)) = true := by
  rw [mStep_goes (mOk_iff.2 hk) hg]
  unfold mAct insTake
  rw [mSample_off hw, if_neg (by omega), if_pos h, if_pos h]
  refine ⟨rfl, ?_⟩
  unfold insTakeB at h
  simp only [Bool.and_eq_true] at h
  exact h.2
def endsB (op : Int) : Bool := op == 11 || op == 12 || op == 13
structure NextIs (m x : MchMach) (i : InsIns) : Prop where
  stop : x.halt ≠ 0 → (x.halt = 3 ∧ (i.op = 9 ∨ i.op = 10)) ∨ (x.halt = 1 ∧ i = ⟨0, 0, 0, 0⟩)
  go : x.halt = 0 → i.op = 13 → x.pc = m.reg i.a
  back : x.halt = 0 → i.op = 0 → i.k = 1 → x.pc = m.save ∧ x.lets = true
  next : x.halt = 0 → i.op ≠ 13 → i.op ≠ 0 → x.pc = m.pc + 1 ∨ (endsB i.op = true ∧ x.pc = i.k)
theorem mDo_next {m : MchMach} (hk : MOk m) (h0 : m.halt = 0) (hp : m.pc < 64) {i : InsIns} (hi : insOkB i = true) : NextIs m (mDo m i) i := by
  have r := insR hi
  have k0 := r.k0
  have k1 := r.k1
  have p0 := hk.p0
  have hr := hk.reg i.a
  have hs0 := hk.s0
  have hs1 := hk.s1
  have hstop : i.op = 0 → i.k ≠ 1 → i.k ≠ 2 → i.k ≠ 3 → i = ⟨0, 0, 0, 0⟩ := fun ho a b c => by
    have h3 := r.stop ho
    unfold insOkB insFormB at hi
    rw [if_pos ho] at hi
    simp only [Bool.and_eq_true, beq_iff_eq] at hi
    cases i
    simp only at ho hi a b c h3 k0
    simp only [InsIns.mk.injEq]
    exact ⟨ho, hi.2.1.1, hi.2.1.2, by omega⟩
  have hnx : ∀ x : MchMach, x.halt = 0 → x.pc = (m.pc + 1) % 65536 → i.op ≠ 13 → i.op ≠ 0 → NextIs m x i := fun x a b c d =>
    ⟨fun q => absurd a q, fun _ q => absurd q c, fun _ q => absurd q d, fun _ _ _ => .inl (by rw [b]; omega)⟩
  apply mDo_elim (P := fun x => NextIs m x i)
  · intro ho
    refine mStop_elim (P := fun x => NextIs m x i) m _ (fun q => ?_) (fun q b => ?_) (fun a b c => ?_)
    · exact ⟨fun e => absurd h0 e, fun _ e => by omega, fun _ _ _ => ⟨(show m.save % 65536 = m.save by omega), rfl⟩, fun _ _ e => absurd ho e⟩
    · exact ⟨fun e => absurd h0 e, fun _ e => by omega, fun _ _ e => absurd e q, fun _ _ e => absurd ho e⟩
    · exact ⟨fun _ => .inr ⟨rfl, hstop ho a b c⟩, fun _ e => by omega, fun _ _ e => absurd e a, fun _ _ e => absurd ho e⟩
  · intro o1 o2 n
    exact hnx _ h0 rfl o2 o1
  · intro ho
    refine mReach_elim (P := fun x => NextIs m x i) m i ?_ (fun n => hnx _ h0 rfl (by omega) (by omega)) (fun a n => hnx _ h0 rfl (by omega) (by omega))
    have h3 : ¬ ((3 : Int) = 0) := by decide
    exact ⟨fun _ => .inl ⟨rfl, ho⟩, fun e => absurd e h3, fun e => absurd e h3, fun e => absurd e h3⟩
  · intro ho p hp'
    rcases hp' with rfl | rfl
    · refine ⟨fun e => absurd h0 e, fun _ e => by omega, fun _ e => by omega, fun _ _ _ => .inr ⟨?_, (show i.k % 65536 = i.k by omega)⟩⟩
      unfold endsB
      rcases ho with ho | ho <;> rw [ho] <;> rfl
    · exact hnx _ h0 rfl (by omega) (by omega)
  · intro ho
    exact ⟨fun e => absurd h0 e, fun _ _ => (show m.reg i.a % 65536 = m.reg i.a by omega), fun _ e => by omega, fun _ e => absurd ho e⟩
  · intro ho
    exact mPort_elim (P := fun x => NextIs m x i) m i (fun n => hnx _ h0 rfl (by omega) (by omega)) (fun n => hnx _ h0 rfl (by omega) (by omega))
/-! A machine whose code is one step -/
theorem step_put {x : MchMach} (hk : MOk x) (hg : mGoes x = true) (hw : x.waits = false) {a : Nat} (ha : a < 64) (hp : x.pc = a) {i : InsIns} (hi : insOkB i = true) (hm : x.mem[a]? = some (insPut i)) : mStep x false = mDo x i := by
  have hword : x.word x.pc = insPut i := by unfold MchMach.word; rw [hp, Int.toNat_natCast, hm]; rfl
  have ht : insTakeB (x.word x.pc) = true := by rw [hword]; exact insTakeB_put hi
  rw [(mNext_do hk hg hw (by omega) ht).1, hword]
  unfold insTake
  rw [if_pos (insTakeB_put hi), insOf_put hi]
theorem MOk.mem' {m : MchMach} (h : MOk m) {l : List Int} (hl : l.length = 64) (hw : ∀ x, x ∈ l → 0 ≤ x ∧ x < 65536) : MOk { m with mem := l } := ⟨h.rl, h.rw_, h.p0, h.p1, hl, hw, h.s0, h.s1, h.h0, h.h1, h.iw, h.ow, h.c0, h.c1⟩
/-- The same but for what the law turned. -/
def shiftM (m : MchMach) (k : Int) : MchMach := { m with halt := 0, waits := false, pc := 0, mem := insPut ⟨8, 2, 3, k⟩ :: m.mem.drop 1 }
theorem shift_word {n : Int} (h0 : 0 ≤ n) (h1 : n < 65536) : wrdDo 1 n n = n * 2 % 65536 := by
  unfold wrdDo
  rw [wordB_yes h0 h1]
  simp only [Bool.and_self, if_true]
  omega
theorem shiftM_step {m : MchMach} (hk : MOk m) (hc : m.count ≤ 999980) {k : Int} (h0 : 0 ≤ k) (h1 : k < 16) : ((mStep (shiftM m k) false).regs[2]?) = some (dbl (m.reg 3) k.toNat) ∧ (mStep (shiftM m k) false).count = m.count + 1 ∧ mchOkB (shiftM m k) = true := by
  have hi : insOkB ⟨8, 2, 3, k⟩ = true := by
    unfold insOkB insFormB inB
    simp
    omega
  have hw := insPut_word ⟨8, 2, 3, k⟩
  have hl := hk.ml
  have hk2 : MOk (shiftM m k) := by
    have e1 := (hk.halt (n := 0) (by omega) (by omega)).mem' (l := insPut ⟨8, 2, 3, k⟩ :: m.mem.drop 1) (by simp; omega) (fun x hx => by
      rcases List.mem_cons.1 hx with rfl | hx
      · exact hw
      · exact hk.mw x (List.mem_of_mem_drop hx))
    exact ⟨e1.rl, e1.rw_, (show (0 : Int) ≤ 0 by omega), (show (0 : Int) < 65536 by omega), e1.ml, e1.mw, e1.s0, e1.s1, e1.h0, e1.h1, e1.iw, e1.ow, e1.c0, e1.c1⟩
  have hg : mGoes (shiftM m k) = true := mGoes_iff.2 ⟨rfl, (show m.count < 1000000 by omega)⟩
  have hs := step_put hk2 hg rfl (a := 0) (by omega) rfl hi rfl
  rw [hs]
  refine ⟨?_, rfl, mOk_iff.2 hk2⟩
  show (m.regs.set 2 (dbl (m.reg 3) k.toNat))[2]? = _
  rw [List.getElem?_set_self (by have := hk.rl; omega)]
def comeM (m : MchMach) : MchMach := { m with halt := 0, waits := false, pc := 5, mem := m.mem.set 5 (insPut ⟨15, 1, 0, 0⟩) }
theorem comeM_step {m : MchMach} (hk : MOk m) (hc : m.count < 1000000) : (mStep (comeM m) false).regs[1]? = some ((m.ins[0]?).getD 0) ∧ (mStep (comeM m) false).ins = m.ins.drop 1 ∧ (mStep (comeM m) false).pc = 6 := by
  have hi : insOkB ⟨15, 1, 0, 0⟩ = true := by decide
  have hw := insPut_word ⟨15, 1, 0, 0⟩
  have hl := hk.ml
  have hk2 : MOk (comeM m) := by
    have e1 := (hk.halt (n := 0) (by omega) (by omega)).setM 5 hw.1 hw.2
    exact ⟨e1.rl, e1.rw_, (show (0 : Int) ≤ 5 by omega), (show (5 : Int) < 65536 by omega), e1.ml, e1.mw, e1.s0, e1.s1, e1.h0, e1.h1, e1.iw, e1.ow, e1.c0, e1.c1⟩
  have hg : mGoes (comeM m) = true := mGoes_iff.2 ⟨rfl, hc⟩
  have hs := step_put hk2 hg rfl (a := 5) (by omega) rfl hi (show (m.mem.set 5 _)[5]? = _ from List.getElem?_set_self (by omega))
  rw [hs]
  refine ⟨?_, rfl, rfl⟩
  show (m.regs.set 1 ((m.ins[0]?).getD 0))[1]? = _
  rw [List.getElem?_set_self (by have := hk.rl; omega)]
def backM (m : MchMach) : MchMach := { m with halt := 0, lets := true, waits := false, mem := m.mem.set 48 (insPut ⟨0, 0, 0, 1⟩) }
theorem backM_step {m : MchMach} (hk : MOk m) (hc : m.count < 1000000) : mStep (backM m) true = { backM m with save := m.pc, count := m.count + 1 } := by
  have hi : insOkB ⟨0, 0, 0, 1⟩ = true := by decide
  have hw := insPut_word ⟨0, 0, 0, 1⟩
  have hl := hk.ml
  have p0 := hk.p0
  have p1 := hk.p1
  have hk2 : MOk (backM m) := by
    have e1 := (hk.halt (n := 0) (by omega) (by omega)).setM 48 hw.1 hw.2
    exact ⟨e1.rl, e1.rw_, e1.p0, e1.p1, e1.ml, e1.mw, e1.s0, e1.s1, e1.h0, e1.h1, e1.iw, e1.ow, e1.c0, e1.c1⟩
  have hg : mGoes (backM m) = true := mGoes_iff.2 ⟨rfl, hc⟩
  rw [mStep_goes (mOk_iff.2 hk2) hg]
  have hsm : mSample (backM m) true = { backM m with waits := false, lets := false, save := m.pc, pc := 48 } := rfl
  have hword : (mSample (backM m) true).word (mSample (backM m) true).pc = insPut ⟨0, 0, 0, 1⟩ := by
    rw [hsm]
    show ((m.mem.set 48 (insPut ⟨0, 0, 0, 1⟩))[(48 : Int).toNat]?).getD 0 = _
    rw [show (48 : Int).toNat = 48 from rfl, List.getElem?_set_self (by omega)]
    rfl
  unfold mAct
  rw [hword, insOf_put hi, if_pos (insTakeB_put hi), hsm]
  rw [if_neg (show ¬ ((64 : Int) ≤ 48) by decide)]
  show ({ ({ backM m with waits := false, lets := true, save := m.pc, pc := 48 } : MchMach) with pc := m.pc % 65536, count := m.count + 1 } : MchMach) = _
  rw [show m.pc % 65536 = m.pc by omega]
  rfl
/-! An interrupt that comes -/
theorem mSample_again (m : MchMach) (b : Bool) : mSample (mSample m b) false = mSample m b := by
  cases hw : m.waits <;> cases hl : m.lets <;> cases b <;> simp [mSample, hw, hl]
theorem mStep_irq {m : MchMach} (hk : MOk m) (hg : mGoes m = true) (b : Bool) : mStep m b = mStep (mSample m b) false := by
  have hg2 : mGoes (mSample m b) = true := by
    rw [mGoes_iff] at hg ⊢
    exact ⟨(mSample_halt m b).trans hg.1, by rw [(mSample_same m b).2.2.2.2]; exact hg.2⟩
  rw [mStep_goes (mOk_iff.2 hk) hg, mStep_goes (mOk_iff.2 (hk.sample b)) hg2]
  unfold mAct
  rw [mSample_again]
/-! Runs -/
theorem mIter_add (irqs : List Int) : ∀ (j k : Nat) (x : MchMach), mIter irqs (j + k) x = mIter irqs k (mIter irqs j x)
  | 0, k, x => by rw [Nat.zero_add]; rfl
  | j + 1, k, x => by
    cases hg : mGoes x
    · rw [mIter_stays hg, mIter_stays hg, mIter_stays hg]
    · rw [show j + 1 + k = (j + k) + 1 by omega, mIter_goes hg, mIter_goes hg]
      exact mIter_add irqs j k _
theorem mIter_okB (irqs : List Int) : ∀ (k : Nat) (x : MchMach), mchOkB x = true → mchOkB (mIter irqs k x) = true
  | 0, x, h => h
  | k + 1, x, h => by
    cases hg : mGoes x
    · rw [mIter_stays hg]; exact h
    · rw [mIter_goes hg]
      exact mIter_okB irqs k _ (mOk_act h hg _)
theorem mRun_add {m : MchMach} {irqs : List Int} {n h : Int} (hk : mchOkB m = true) (hn : n ≤ 400) (h0 : 0 ≤ h) (h1 : h ≤ n) : mRun (mRun m irqs h) irqs (n - h) = mRun m irqs n := by
  rw [mRun_iter hk (by omega : h ≤ 400), mRun_iter hk hn, mRun_iter (mIter_okB irqs _ m hk) (by omega)]
  rw [← mIter_add]
  congr 1
  omega
theorem mRun_okB {m : MchMach} {irqs : List Int} {n : Int} (hk : mchOkB m = true) (hn : n ≤ 400) : mchOkB (mRun m irqs n) = true := by
  rw [mRun_iter hk hn]; exact mIter_okB irqs _ m hk
theorem mIter_count (irqs : List Int) : ∀ (k : Nat) (x : MchMach), mchOkB x = true → (mIter irqs k x).count ≤ x.count + k ∧ ((mIter irqs k x).halt ≠ 0 ∨ (mIter irqs k x).count = x.count + k ∨ (mIter irqs k x).count = 1000000)
  | 0, x, h => ⟨by show x.count ≤ x.count + 0; omega, .inr (.inl (by show x.count = x.count + 0; omega))⟩
  | k + 1, x, h => by
    have hx := mOk_iff.1 h
    cases hg : mGoes x
    · rw [mIter_stays hg]
      refine ⟨by omega, ?_⟩
      by_cases h0 : x.halt = 0
      · have hc := hx.c1
        have : ¬ x.count < 1000000 := fun q => by rw [mGoes_iff.2 ⟨h0, q⟩] at hg; exact absurd hg (by simp)
        exact .inr (.inr (by omega))
      · exact .inl h0
    · rw [mIter_goes hg]
      have hn := mOk_act h hg (hasI irqs x.count)
      have ih := mIter_count irqs k _ hn
      have hc := mStep_count hx hg (hasI irqs x.count)
      rw [mStep_goes h hg] at hc
      rcases hc with ⟨h1, h2⟩ | ⟨h1, h2, -⟩
      · rw [h1] at ih
        refine ⟨by omega, ?_⟩
        rcases ih.2 with q | q | q
        · exact .inl q
        · exact .inr (.inl (by omega))
        · exact .inr (.inr q)
      · have hst : mGoes (mAct x (hasI irqs x.count)) = false := by rw [← Bool.not_eq_true, mGoes_iff]; exact fun q => by omega
        rw [mIter_stays hst] at ih ⊢
        exact ⟨by omega, .inl (by omega)⟩
theorem mIter_late {irqs more : List Int} : ∀ (k : Nat) (x : MchMach), mchOkB x = true → (∀ c, x.count ≤ c → c < x.count + k → hasI irqs c = hasI more c) → mIter irqs k x = mIter more k x
  | 0, x, h, _ => rfl
  | k + 1, x, h, hc => by
    have hx := mOk_iff.1 h
    cases hg : mGoes x
    · rw [mIter_stays hg, mIter_stays hg]
    · rw [mIter_goes hg, mIter_goes hg, ← hc x.count (by omega) (by omega)]
      have hn := mOk_act h hg (hasI irqs x.count)
      have hs := mStep_count hx hg (hasI irqs x.count)
      rw [mStep_goes h hg] at hs
      rcases hs with ⟨h1, h2⟩ | ⟨h1, h2, -⟩
      · exact mIter_late k _ hn (fun c h3 h4 => hc c (by omega) (by omega))
      · have hst : mGoes (mAct x (hasI irqs x.count)) = false := by rw [← Bool.not_eq_true, mGoes_iff]; exact fun q => by omega
        rw [mIter_stays hst, mIter_stays hst]
theorem mRun_late {m : MchMach} {irqs : List Int} {n : Int} (hk : mchOkB m = true) (h0 : 0 ≤ n) (hn : n ≤ 400) : mRun m irqs n = mRun m (irqs ++ [m.count + n, m.count - 1]) n := by
  rw [mRun_iter hk hn, mRun_iter hk hn]
  refine mIter_late _ m hk (fun c h1 h2 => ?_)
  unfold hasI
  rw [Bool.eq_iff_iff]
  simp
  omega
theorem mDo_halt4 (m : MchMach) (i : InsIns) (h : m.halt = 0) : (mDo m i).halt ≠ 4 := by
  rcases mDo_count m i h with ⟨_, h1 | h1⟩ | ⟨_, h1, _⟩ <;> rw [h1] <;> decide
theorem mIter_place (irqs : List Int) : ∀ (k : Nat) (x : MchMach), mchOkB x = true → x.halt = 0 → (mIter irqs k x).halt = 4 → 64 ≤ (mIter irqs k x).pc
  | 0, x, _, h0, h => by
    have h' : x.halt = 4 := h
    rw [h0] at h'
    exact absurd h' (by decide)
  | k + 1, x, hk, h0, h => by
    cases hg : mGoes x
    · rw [mIter_stays hg] at h
      rw [h0] at h
      exact absurd h (by decide)
    · rw [mIter_goes hg] at h ⊢
      by_cases h1 : (mAct x (hasI irqs x.count)).halt = 0
      · exact mIter_place irqs k _ (mOk_act hk hg _) h1 h
      · have hst : mGoes (mAct x (hasI irqs x.count)) = false := by rw [← Bool.not_eq_true, mGoes_iff]; exact fun q => h1 q.1
        rw [mIter_stays hst] at h ⊢
        revert h
        unfold mAct
        split
        · intro _; assumption
        · split
          · intro h; exact absurd h (mDo_halt4 _ _ ((mSample_halt x _).trans h0))
          · intro h; exact absurd h (show ¬ ((2 : Int) = 4) by decide)
theorem mIter_lens2 (irqs : List Int) : ∀ (k : Nat) (x : MchMach), (mIter irqs k x).outs.length ≤ x.outs.length + k ∧ (mIter irqs k x).ins.length ≤ x.ins.length
  | 0, x => ⟨Nat.le_refl _, Nat.le_refl _⟩
  | k + 1, x => by
    cases hg : mGoes x
    · rw [mIter_stays hg]; omega
    · have ih := mIter_lens2 irqs k (mAct x (hasI irqs x.count))
      have hl := mAct_lens x (hasI irqs x.count)
      rw [mIter_goes hg]
      omega
theorem mRun_ok2 {m : MchMach} {irqs : List Int} {n : Int} (hk : mchOkB m = true) (hn : n ≤ 400) : (mRun m irqs n).regs.length ≤ 4 ∧ (mRun m irqs n).mem.length ≤ 64 ∧ (mRun m irqs n).ins.length ≤ m.ins.length ∧ (mRun m irqs n).outs.length ≤ m.outs.length + 400 := by
  have h := mOk_iff.1 (mRun_okB (irqs := irqs) hk hn)
  have hl := mIter_lens2 irqs n.toNat m
  rw [← mRun_iter hk hn] at hl
  exact ⟨by rw [h.rl]; omega, by rw [h.ml]; omega, hl.2, by omega⟩
theorem mRun_place {m : MchMach} {irqs : List Int} {n : Int} (hk : mchOkB m = true) (hn : n ≤ 400) (h0 : m.halt = 0) (h : (mRun m irqs n).halt = 4) : 64 ≤ (mRun m irqs n).pc := by
  rw [mRun_iter hk hn] at h ⊢
  exact mIter_place irqs _ m hk h0 h
theorem mRun_stands {x : MchMach} {irqs : List Int} (hk : mchOkB x = true) (h : x.halt ≠ 0) : mRun x irqs 7 = x := by
  rw [mRun_iter hk (by omega), mIter_stays (by rw [← Bool.not_eq_true, mGoes_iff]; exact fun q => h q.1)]
theorem mRun_zero {m : MchMach} {irqs : List Int} {n : Int} (hk : mchOkB m = true) (hn : n < 1) : mRun m irqs n = m := by
  rw [mRun_iter hk (by omega), show n.toNat = 0 by omega]; rfl

end Go.Proofs.YtabldlhigjhkeaaDoor
