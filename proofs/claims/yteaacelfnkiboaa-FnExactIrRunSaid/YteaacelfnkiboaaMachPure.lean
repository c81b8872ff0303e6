/-
  A machine in plain words: what a step, and a run, make of it. No program in sight.
-/
import Derived.Test.YteaacelfnkiboaaWordPure
namespace Go.Proofs.Yteaacelfnkiboaa
open Go.RowKit
set_option linter.unusedVariables false
set_option linter.unusedSimpArgs false

/-! Instructions -/
/-- The parts of a word. -/
def insOf (w : Int) : InsIns := ⟨w / 4096, w / 1024 % 4, w / 256 % 4, w % 256⟩
def insFormB (i : InsIns) : Bool :=
  if i.op = 0 then (i.d == 0 && i.a == 0) && decide (i.k ≤ 3)
  else if i.op = 1 then i.a == 0
  else if i.op = 2 then i.k == 0
  else if 3 ≤ i.op ∧ i.op ≤ 7 then decide (i.k < 4)
  else if i.op = 8 then decide (i.k < 16)
  else if i.op = 13 then i.d == 0 && i.k == 0
  else if i.op = 14 ∨ i.op = 15 then i.a == 0 && i.k == 0
  else true
def insOkB (i : InsIns) : Bool := inB i.op 0 15 && inB i.d 0 3 && inB i.a 0 3 && inB i.k 0 255 && insFormB i
def insTakeB (w : Int) : Bool := wordB w && insOkB (insOf w)
def insNone : InsIns := ⟨0, 0, 0, 0⟩
def insTake (w : Int) : InsIns := if insTakeB w then insOf w else insNone
def insPut (i : InsIns) : Int := if insOkB i then i.op * 4096 + i.d * 1024 + i.a * 256 + i.k else 0
/-- What is known of an instruction that is ok. -/
structure InsR (i : InsIns) : Prop where
  o0 : 0 ≤ i.op
  o1 : i.op ≤ 15
  d0 : 0 ≤ i.d
  d1 : i.d ≤ 3
  a0 : 0 ≤ i.a
  a1 : i.a ≤ 3
  k0 : 0 ≤ i.k
  k1 : i.k ≤ 255
  stop : i.op = 0 → i.k ≤ 3
  calc_ : 3 ≤ i.op → i.op ≤ 7 → i.k < 4
  shift : i.op = 8 → i.k < 16
theorem insR {i : InsIns} (h : insOkB i = true) : InsR i := by
  unfold insOkB at h
  simp only [Bool.and_eq_true, inB_iff] at h
  obtain ⟨⟨⟨⟨h1, h2⟩, h3⟩, h4⟩, h5⟩ := h
  refine ⟨h1.1, h1.2, h2.1, h2.2, h3.1, h3.2, h4.1, h4.2, fun e => ?_, fun e1 e2 => ?_, fun e => ?_⟩
  · unfold insFormB at h5; rw [if_pos e] at h5; simp at h5; exact h5.2
  · unfold insFormB at h5; rw [if_neg (by omega), if_neg (by omega), if_neg (by omega), if_pos ⟨e1, e2⟩] at h5; simpa using h5
  · unfold insFormB at h5; rw [if_neg (by omega), if_neg (by omega), if_neg (by omega), if_neg (by omega), if_pos e] at h5; simpa using h5
theorem insPut_word (i : InsIns) : 0 ≤ insPut i ∧ insPut i < 65536 := by
  unfold insPut
  split
  · rename_i h; have := insR h; have := this.o0; have := (insR h).o1; have := (insR h).d0; have := (insR h).d1; have := (insR h).a0; have := (insR h).a1; have := (insR h).k0; have := (insR h).k1; omega
  · omega
theorem insOf_put {i : InsIns} (h : insOkB i = true) : insOf (insPut i) = i := by
  have := (insR h).o0; have := (insR h).o1; have := (insR h).d0; have := (insR h).d1; have := (insR h).a0; have := (insR h).a1; have := (insR h).k0; have := (insR h).k1
  unfold insPut insOf
  rw [if_pos h]
  cases i
  simp only [InsIns.mk.injEq] at *
  refine ⟨?_, ?_, ?_, ?_⟩ <;> omega
theorem insTakeB_put {i : InsIns} (h : insOkB i = true) : insTakeB (insPut i) = true := by
  have := insPut_word i
  unfold insTakeB
  rw [insOf_put h, h, wordB_yes this.1 this.2]; rfl

/-! Words -/
def wrdDo (op a b : Int) : Int :=
  if wordB a && wordB b then
    if op = 1 then (a + b) % 65536 else if op = 2 then (a - b) % 65536 else if op = 3 then a * b % 65536
    else if op = 4 then ((a.toNat &&& b.toNat : Nat) : Int) else if op = 5 then ((a.toNat ^^^ b.toNat : Nat) : Int) else 0
  else 0
theorem wrdDo_word (op a b : Int) : wordB (wrdDo op a b) = true := by
  unfold wrdDo
  split
  · rename_i h
    simp [wordB] at h
    have ha : a.toNat < 2 ^ 16 := by omega
    have hb : b.toNat < 2 ^ 16 := by omega
    repeat' split
    all_goals refine wordB_yes ?_ ?_
    all_goals first | omega | (have := Nat.and_lt_two_pow a.toNat hb; omega) | (have := Nat.xor_lt_two_pow ha hb; omega)
  · exact wordB_yes (by omega) (by omega)
/-- A word, so many times doubled. -/
def dbl (n : Int) : Nat → Int
  | 0 => n
  | k + 1 => dbl n k * 2 % 65536
theorem dbl_word {n : Int} (h0 : 0 ≤ n) (h1 : n < 65536) : ∀ k, 0 ≤ dbl n k ∧ dbl n k < 65536
  | 0 => ⟨h0, h1⟩
  | k + 1 => by unfold dbl; omega
theorem dbl_pow {n : Int} (h0 : 0 ≤ n) (h1 : n < 65536) : ∀ k, dbl n k = n * 2 ^ k % 65536
  | 0 => by unfold dbl; simp; omega
  | k + 1 => by
    unfold dbl
    rw [dbl_pow h0 h1 k, Int.pow_succ, ← Int.mul_assoc]
    omega

/-! Machines -/
def emptyMach : MchMach := ⟨[], 0, [], 0, false, false, 0, [], [], 0⟩
/-- What a machine that is ok is like. -/
structure MOk (m : MchMach) : Prop where
  rl : m.regs.length = 4
  rw_ : ∀ x, x ∈ m.regs → 0 ≤ x ∧ x < 65536
  p0 : 0 ≤ m.pc
  p1 : m.pc < 65536
  ml : m.mem.length = 64
  mw : ∀ x, x ∈ m.mem → 0 ≤ x ∧ x < 65536
  s0 : 0 ≤ m.save
  s1 : m.save < 65536
  h0 : 0 ≤ m.halt
  h1 : m.halt ≤ 4
  iw : ∀ x, x ∈ m.ins → 0 ≤ x ∧ x < 65536
  ow : ∀ x, x ∈ m.outs → 0 ≤ x ∧ x < 65536
  c0 : 0 ≤ m.count
  c1 : m.count ≤ 1000000
theorem wordsB_iff {l : List Int} : wordsB l = true ↔ ∀ x, x ∈ l → 0 ≤ x ∧ x < 65536 := by
  unfold wordsB
  rw [List.all_eq_true]
  exact ⟨fun h x hx => wordB_iff.1 (h x hx), fun h x hx => wordB_iff.2 (h x hx)⟩
theorem mOk_iff {m : MchMach} : mchOkB m = true ↔ MOk m := by
  unfold mchOkB
  simp only [Bool.and_eq_true, beq_iff_eq, wordsB_iff, wordB_iff, inB_iff]
  constructor
  · rintro ⟨⟨⟨⟨⟨⟨⟨⟨⟨h1, h2⟩, h3⟩, h4⟩, h5⟩, h6⟩, h7⟩, h8⟩, h9⟩, h10⟩
    exact ⟨h1, h2, h3.1, h3.2, h4, h5, h6.1, h6.2, h7.1, h7.2, h8, h9, h10.1, h10.2⟩
  · intro h
    exact ⟨⟨⟨⟨⟨⟨⟨⟨⟨h.rl, h.rw_⟩, h.p0, h.p1⟩, h.ml⟩, h.mw⟩, h.s0, h.s1⟩, h.h0, h.h1⟩, h.iw⟩, h.ow⟩, h.c0, h.c1⟩
def MchMach.next (m : MchMach) (pc : Int) : MchMach := { m with pc := pc % 65536, count := m.count + 1 }
def MchMach.setR (m : MchMach) (d n : Int) : MchMach := { m with regs := m.regs.set d.toNat n }
def MchMach.reg (m : MchMach) (r : Int) : Int := (m.regs[r.toNat]?).getD 0
def MchMach.word (m : MchMach) (a : Int) : Int := (m.mem[a.toNat]?).getD 0
def mStop (m : MchMach) (k : Int) : MchMach :=
  if k = 1 then ({ m with lets := true } : MchMach).next m.save
  else if k = 2 then ({ m with lets := true } : MchMach).next (m.pc + 1)
  else if k = 3 then ({ m with lets := false } : MchMach).next (m.pc + 1)
  else ({ m with halt := 1 } : MchMach).next (m.pc + 1)
def mReach (m : MchMach) (i : InsIns) : MchMach :=
  if 64 ≤ (m.reg i.a + i.k) % 65536 then { m with halt := 3 }
  else if i.op = 9 then (m.setR i.d (m.word ((m.reg i.a + i.k) % 65536))).next (m.pc + 1)
  else ({ m with mem := m.mem.set ((m.reg i.a + i.k) % 65536).toNat (m.reg i.d) } : MchMach).next (m.pc + 1)
def mPort (m : MchMach) (i : InsIns) : MchMach :=
  if i.op = 14 then ({ m with outs := m.outs ++ [m.reg i.d] } : MchMach).next (m.pc + 1)
  else (({ m with ins := m.ins.drop 1 } : MchMach).setR i.d ((m.ins[0]?).getD 0)).next (m.pc + 1)
/-- An instruction is done. -/
def mDo (m : MchMach) (i : InsIns) : MchMach :=
  if i.op = 0 then mStop m i.k
  else if i.op = 1 then (m.setR i.d i.k).next (m.pc + 1)
  else if i.op = 2 then (m.setR i.d (m.reg i.a)).next (m.pc + 1)
  else if i.op = 8 then (m.setR i.d (dbl (m.reg i.a) i.k.toNat)).next (m.pc + 1)
  else if i.op = 9 ∨ i.op = 10 then mReach m i
  else if i.op = 11 then m.next (if m.reg i.d = m.reg i.a then i.k else m.pc + 1)
  else if i.op = 12 then m.next (if m.reg i.d < m.reg i.a then i.k else m.pc + 1)
  else if i.op = 13 then m.next (m.reg i.a)
  else if i.op = 14 ∨ i.op = 15 then mPort m i
  else (m.setR i.d (wrdDo (i.op - 2) (m.reg i.a) (m.reg i.k))).next (m.pc + 1)
def mSample (m : MchMach) (irq : Bool) : MchMach :=
  if (m.waits || irq) && m.lets then { m with waits := false, lets := false, save := m.pc, pc := 48 } else { m with waits := m.waits || irq }
/-- A step of a machine that goes on. -/
def mAct (m : MchMach) (irq : Bool) : MchMach :=
  if 64 ≤ (mSample m irq).pc then { mSample m irq with halt := 4 }
  else if insTakeB ((mSample m irq).word (mSample m irq).pc) then mDo (mSample m irq) (insOf ((mSample m irq).word (mSample m irq).pc))
  else { mSample m irq with halt := 2 }
def mGoes (m : MchMach) : Bool := (m.halt == 0) && decide (m.count < 1000000)
def mStep (m : MchMach) (irq : Bool) : MchMach := if mchOkB m then (if mGoes m then mAct m irq else m) else emptyMach
def hasI (l : List Int) (n : Int) : Bool := l.contains n
def mIter (irqs : List Int) : Nat → MchMach → MchMach
  | 0, x => x
  | k + 1, x => if mGoes x then mIter irqs k (mAct x (hasI irqs x.count)) else x
def mRun (m : MchMach) (irqs : List Int) (n : Int) : MchMach := if mchOkB m && !decide (400 < n) then mIter irqs n.toNat m else emptyMach

theorem mem_set_word {l : List Int} (h : ∀ x, x ∈ l → 0 ≤ x ∧ x < 65536) (k : Nat) {n : Int} (h0 : 0 ≤ n) (h1 : n < 65536) : ∀ x, x ∈ l.set k n → 0 ≤ x ∧ x < 65536 := fun x hx => by
  rcases List.mem_or_eq_of_mem_set hx with hx | rfl
  · exact h x hx
  · exact ⟨h0, h1⟩
theorem getD_word {l : List Int} (h : ∀ x, x ∈ l → 0 ≤ x ∧ x < 65536) (k : Nat) : 0 ≤ (l[k]?).getD 0 ∧ (l[k]?).getD 0 < 65536 := by
  cases hk : l[k]? with
  | none => simp
  | some x => exact h x (List.mem_of_getElem? hk)
namespace MOk
variable {m : MchMach}
theorem reg (h : MOk m) (r : Int) : 0 ≤ m.reg r ∧ m.reg r < 65536 := getD_word h.rw_ _
theorem word (h : MOk m) (a : Int) : 0 ≤ m.word a ∧ m.word a < 65536 := getD_word h.mw _
theorem next (h : MOk m) (hc : m.count < 1000000) (pc : Int) : MOk (m.next pc) :=
  ⟨h.rl, h.rw_, by show 0 ≤ pc % 65536; omega, by show pc % 65536 < 65536; omega, h.ml, h.mw, h.s0, h.s1, h.h0, h.h1, h.iw, h.ow, by show 0 ≤ m.count + 1; have := h.c0; omega, by show m.count + 1 ≤ 1000000; omega⟩
theorem setR (h : MOk m) (d : Int) {n : Int} (h0 : 0 ≤ n) (h1 : n < 65536) : MOk (m.setR d n) :=
  ⟨by show (m.regs.set _ _).length = 4; rw [List.length_set]; exact h.rl, mem_set_word h.rw_ _ h0 h1, h.p0, h.p1, h.ml, h.mw, h.s0, h.s1, h.h0, h.h1, h.iw, h.ow, h.c0, h.c1⟩
theorem setM (h : MOk m) (a : Nat) {n : Int} (h0 : 0 ≤ n) (h1 : n < 65536) : MOk { m with mem := m.mem.set a n } :=
  ⟨h.rl, h.rw_, h.p0, h.p1, by show (m.mem.set _ _).length = 64; rw [List.length_set]; exact h.ml, mem_set_word h.mw _ h0 h1, h.s0, h.s1, h.h0, h.h1, h.iw, h.ow, h.c0, h.c1⟩
theorem halt (h : MOk m) {n : Int} (h0 : 0 ≤ n) (h1 : n ≤ 4) : MOk { m with halt := n } := ⟨h.rl, h.rw_, h.p0, h.p1, h.ml, h.mw, h.s0, h.s1, h0, h1, h.iw, h.ow, h.c0, h.c1⟩
theorem lets (h : MOk m) (b : Bool) : MOk { m with lets := b } := ⟨h.rl, h.rw_, h.p0, h.p1, h.ml, h.mw, h.s0, h.s1, h.h0, h.h1, h.iw, h.ow, h.c0, h.c1⟩
theorem sample (h : MOk m) (irq : Bool) : MOk (mSample m irq) := by
  unfold mSample
  split
  · exact ⟨h.rl, h.rw_, (show (0 : Int) ≤ 48 by decide), (show (48 : Int) < 65536 by decide), h.ml, h.mw, h.p0, h.p1, h.h0, h.h1, h.iw, h.ow, h.c0, h.c1⟩
  · exact ⟨h.rl, h.rw_, h.p0, h.p1, h.ml, h.mw, h.s0, h.s1, h.h0, h.h1, h.iw, h.ow, h.c0, h.c1⟩
theorem stop (h : MOk m) (hc : m.count < 1000000) (k : Int) : MOk (mStop m k) := by
  unfold mStop
  split
  · exact (h.lets true).next hc _
  · split
    · exact (h.lets true).next hc _
    · split
      · exact (h.lets false).next hc _
      · exact (h.halt (n := 1) (by decide) (by decide)).next hc _
theorem reach (h : MOk m) (hc : m.count < 1000000) (i : InsIns) : MOk (mReach m i) := by
  unfold mReach
  split
  · exact h.halt (by decide) (by decide)
  · split
    · exact (h.setR _ (h.word _).1 (h.word _).2).next hc _
    · exact (h.setM _ (h.reg _).1 (h.reg _).2).next hc _
theorem port (h : MOk m) (hc : m.count < 1000000) (i : InsIns) : MOk (mPort m i) := by
  unfold mPort
  split
  · have hw : ∀ x, x ∈ m.outs ++ [m.reg i.d] → 0 ≤ x ∧ x < 65536 := fun x hx => by
      rcases List.mem_append.1 hx with hx | hx
      · exact h.ow x hx
      · simp at hx; subst hx; exact h.reg _
    have ho : MOk { m with outs := m.outs ++ [m.reg i.d] } := ⟨h.rl, h.rw_, h.p0, h.p1, h.ml, h.mw, h.s0, h.s1, h.h0, h.h1, h.iw, hw, h.c0, h.c1⟩
    exact ho.next hc _
  · have hi : MOk { m with ins := m.ins.drop 1 } := ⟨h.rl, h.rw_, h.p0, h.p1, h.ml, h.mw, h.s0, h.s1, h.h0, h.h1, fun x hx => h.iw x (List.mem_of_mem_drop hx), h.ow, h.c0, h.c1⟩
    exact (hi.setR _ (getD_word h.iw 0).1 (getD_word h.iw 0).2).next hc _
theorem do_ (h : MOk m) (hc : m.count < 1000000) (i : InsIns) (hi : InsR i) : MOk (mDo m i) := by
  have hk := hi.k0
  have hk1 := hi.k1
  unfold mDo
  split
  · exact h.stop hc _
  · split
    · exact (h.setR _ hk (by omega)).next hc _
    · split
      · exact (h.setR _ (h.reg _).1 (h.reg _).2).next hc _
      · split
        · exact (h.setR _ (dbl_word (h.reg _).1 (h.reg _).2 _).1 (dbl_word (h.reg _).1 (h.reg _).2 _).2).next hc _
        · split
          · exact h.reach hc i
          · split
            · exact h.next hc _
            · split
              · exact h.next hc _
              · split
                · exact h.next hc _
                · split
                  · exact h.port hc i
                  · have := wordB_iff.1 (wrdDo_word (i.op - 2) (m.reg i.a) (m.reg i.k))
                    exact (h.setR _ this.1 this.2).next hc _
theorem act (h : MOk m) (hc : m.count < 1000000) (irq : Bool) : MOk (mAct m irq) := by
  have hs := h.sample irq
  have hcs : (mSample m irq).count < 1000000 := by unfold mSample; split <;> exact hc
  unfold mAct
  split
  · exact hs.halt (by decide) (by decide)
  · split
    · rename_i hq
      unfold insTakeB at hq
      simp only [Bool.and_eq_true] at hq
      exact hs.do_ hcs _ (insR hq.2)
    · exact hs.halt (by decide) (by decide)
end MOk
theorem mGoes_iff {m : MchMach} : mGoes m = true ↔ m.halt = 0 ∧ m.count < 1000000 := by unfold mGoes; simp
theorem mStep_goes {m : MchMach} (h : mchOkB m = true) (hg : mGoes m = true) (irq : Bool) : mStep m irq = mAct m irq := by unfold mStep; rw [if_pos h, if_pos hg]
theorem mStep_stays {m : MchMach} (h : mchOkB m = true) (hg : mGoes m = false) (irq : Bool) : mStep m irq = m := by unfold mStep; rw [if_pos h, if_neg (by rw [hg]; simp)]
theorem mStep_no {m : MchMach} (h : mchOkB m = false) (irq : Bool) : mStep m irq = emptyMach := by unfold mStep; rw [if_neg (by rw [h]; simp)]
theorem mOk_act {m : MchMach} (h : mchOkB m = true) (hg : mGoes m = true) (irq : Bool) : mchOkB (mAct m irq) = true := mOk_iff.2 ((mOk_iff.1 h).act (mGoes_iff.1 hg).2 irq)
theorem mIter_stays {irqs : List Int} {x : MchMach} (h : mGoes x = false) : ∀ k, mIter irqs k x = x
  | 0 => rfl
  | k + 1 => by unfold mIter; rw [if_neg (by rw [h]; simp)]
theorem mIter_goes {irqs : List Int} {x : MchMach} (h : mGoes x = true) (k : Nat) : mIter irqs (k + 1) x = mIter irqs k (mAct x (hasI irqs x.count)) := by
  rw [mIter, if_pos h]

end Go.Proofs.Yteaacelfnkiboaa
