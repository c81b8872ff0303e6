/-
  A step: the program.
-/
import Derived.Test.YtabldlhigjhkeaaDoorExecI
import Derived.Test.YtabldlhigjhkeaaDoorInsI
import Derived.Deep.DeepCutAuto
namespace Go.Proofs.YtabldlhigjhkeaaDoor
open Go.RowKit

set_option linter.unusedVariables false
set_option linter.unusedSimpArgs false
set_option maxRecDepth 100000

theorem Bx.store4 {w : World} {b : Nat} {cs : List Value} (h : Bx w b cs) (hl : cs.length = 4) (a0 a1 a2 a3 : Value) : Bx ((((w.setCell ⟨b, 0, none⟩ a0).setCell ⟨b, 1, none⟩ a1).setCell ⟨b, 2, none⟩ a2).setCell ⟨b, 3, none⟩ a3) b [a0, a1, a2, a3] := by
  match cs, hl with
  | [x0, x1, x2, x3], _ =>
    have h0 := Bx.put h (j := 0) (by simp) a0
    have h1 := Bx.put h0 (j := 1) (by simp) a1
    have h2 := Bx.put h1 (j := 2) (by simp) a2
    have h3 := Bx.put h2 (j := 3) (by simp) a3
    simpa using h3

set_option maxHeartbeats 64000000 in
theorem step_any (m : MchMach) (g1 o1 c1 g2 o2 c2 : Nat) (v3 v4 : Value) (lo : Nat) (X : List Nat) (w : World) (hM : Mach 3 lo X w g1 o1 c1 g2 o2 c2 v3 v4 m) (hk : MOk m) (hc : m.count < 1000000) (hn4 : m.outs.length ≤ 4194304) (irq : Bool) (bm : Nat) (hbX : bm ∈ X) (hBm : Bx w bm [(.slice (some ⟨g1, o1, none⟩) 4 c1), .int .i64 m.pc, (.slice (some ⟨g2, o2, none⟩) 64 c2), .int .i64 m.save, .bool m.lets, .bool m.waits, .int .i64 m.halt, v3, v4, .int .i64 m.count]) (hFm : ∀ oo, w.frozen? ⟨bm, oo, none⟩ = false) (lf : Nat) (hF : Forms lf w) (hlf : lf ≤ lo) :
    Calls Tryd.prog 47 #[.pointer (some ⟨bm, 0, none⟩), .bool irq] w fun e w' => e = .returned (.tuple #[]) ∧ ∃ v3' v4', Bx w' bm [(.slice (some ⟨g1, o1, none⟩) 4 c1), .int .i64 ((mAct m irq).pc), (.slice (some ⟨g2, o2, none⟩) 64 c2), .int .i64 ((mAct m irq).save), .bool (mAct m irq).lets, .bool (mAct m irq).waits, .int .i64 ((mAct m irq).halt), v3', v4', .int .i64 ((mAct m irq).count)] ∧ (∀ oo, w'.frozen? ⟨bm, oo, none⟩ = false) ∧ Mach 3 lo X w' g1 o1 c1 g2 o2 c2 v3' v4' (mAct m irq) ∧ Turn (bm :: mfoot g1 g2 v4) w w' ∧ (∀ q, v4'.ownBlock = some q → v4.ownBlock = some q ∨ w.heap.size ≤ q) := by
  obtain ⟨A3, c3, rfl, hl3, hm3⟩ := hM.form3
  obtain ⟨A4, c4, rfl, hl4, hm4⟩ := hM.form4
  unfold maxLen at hm3 hm4
  have hp0 := hk.p0
  have hp1 := hk.p1
  have hc0 := hk.c0
  have hlt := hM.lt
  have hlt1 := hlt.1
  have hlt2 := hlt.2.1
  have hgl1 := hlt.2.2.1
  have hgl2 := hlt.2.2.2.1
  have hown : ∀ q, (Value.slice A4 m.outs.length c4).ownBlock = some q → q < w.heap.size := fun q hq => (hlt.2.2.2.2 q (by unfold mfoot; simp [hq])).2
  have hfoot : ∀ x, x ∈ mfoot g1 g2 (Value.slice A4 m.outs.length c4) → x < w.heap.size := fun x hx => (hlt.2.2.2.2 x hx).2
  clear hlt
  have hbv : bm < w.heap.size ∧ bm ≠ g1 ∧ bm ≠ g2 ∧ (Value.slice A4 m.outs.length c4).ownBlock ≠ some bm := by
    obtain ⟨F3, wa, Fs, xs, hC⟩ := hM
    have := hC.av bm hbX
    exact ⟨this.1, this.2.2.1, this.2.2.2.1, this.2.2.2.2.2⟩
  have hb1_ := hbv.1
  have hb2_ := hbv.2.1
  have hb3_ := hbv.2.2.1
  have hb4_ := hbv.2.2.2
  clear hbv
  have hbl : lo ≤ bm := by
    obtain ⟨F3, wa, Fs, xs, hC⟩ := hM
    exact (hC.av bm hbX).2.1
  have hfl : ∀ x, x ∈ (bm :: mfoot g1 g2 (.slice A4 m.outs.length c4)) → lf ≤ x := fun x hx => by
    rcases List.mem_cons.1 hx with h | h
    · omega
    · have := (hM.lt.2.2.2.2 x h).1; omega
  have hbY := hbX
  have hBm_0 := hBm
  have hFm_0 := hFm
  have ht0 : Turn (bm :: mfoot g1 g2 (.slice A4 m.outs.length c4)) w w := Turn.refl _ _
  have hs0 : w.heap.size ≤ w.heap.size := Nat.le_refl _
  have hq0 := hk.c1
  go_enter Tryd.func47, Tryd.ntmps47
  go_upto_region 0 with fail
  go_cut [] (fun wx => Bx wx bm [(.slice (some ⟨g1, o1, none⟩) 4 c1), .int .i64 m.pc, (.slice (some ⟨g2, o2, none⟩) 64 c2), .int .i64 m.save, .bool m.lets, .bool (m.waits || irq), .int .i64 m.halt, (.slice A3 m.ins.length c3), (.slice A4 m.outs.length c4), .int .i64 m.count] ∧ (∀ oo, wx.frozen? ⟨bm, oo, none⟩ = false) ∧ Mach 3 lo X wx g1 o1 c1 g2 o2 c2 (.slice A3 m.ins.length c3) (.slice A4 m.outs.length c4) m ∧ Turn (bm :: mfoot g1 g2 (.slice A4 m.outs.length c4)) w wx ∧ w.heap.size ≤ wx.heap.size)
  · 
    have ym : bm < w.heap.size := by omega
    have xm0 := hBm_0 0 _ rfl
    have xm1 := hBm_0 1 _ rfl
    have xm2 := hBm_0 2 _ rfl
    have xm3 := hBm_0 3 _ rfl
    have xm4 := hBm_0 4 _ rfl
    have xm5 := hBm_0 5 _ rfl
    have xm6 := hBm_0 6 _ rfl
    have xm7 := hBm_0 7 _ rfl
    have xm8 := hBm_0 8 _ rfl
    have xm9 := hBm_0 9 _ rfl
    have fm := hFm_0
    cases hw : m.waits <;> cases irq <;> rw [hw] at xm5
    · 
      go_wp2
      go_meet
      exact ⟨by have := Bx.put hBm_0 (j := 5) (by simp) (.bool false); simpa [hw] using this, fz_hold hFm_0, Mach.far hM hbX (p := ⟨bm, 5, none⟩) _, (Turn.refl _ _).set (.inl (by simp)) _, by simp⟩
    · 
      go_wp2
      go_meet
      exact ⟨by have := Bx.put hBm_0 (j := 5) (by simp) (.bool true); simpa [hw] using this, fz_hold hFm_0, Mach.far hM hbX (p := ⟨bm, 5, none⟩) _, (Turn.refl _ _).set (.inl (by simp)) _, by simp⟩
    · 
      go_wp2
      go_meet
      exact ⟨by have := Bx.put hBm_0 (j := 5) (by simp) (.bool true); simpa [hw] using this, fz_hold hFm_0, Mach.far hM hbX (p := ⟨bm, 5, none⟩) _, (Turn.refl _ _).set (.inl (by simp)) _, by simp⟩
    · 
      go_wp2
      go_meet
      exact ⟨by have := Bx.put hBm_0 (j := 5) (by simp) (.bool true); simpa [hw] using this, fz_hold hFm_0, Mach.far hM hbX (p := ⟨bm, 5, none⟩) _, (Turn.refl _ _).set (.inl (by simp)) _, by simp⟩
  obtain ⟨hBm_1, hFm_1, hM1, ht1, hs1⟩ := hcut
  obtain ⟨w1, hwc⟩ : ∃ w1 : World, w1 = wc := ⟨_, rfl⟩
  subst hwc
  clear hBm_0 hFm_0
  generalize hW : (m.waits || irq) = W at *
  go_upto_region 1 with fail
  go_cut [25] (fun v wx => v = .bool (W && m.lets) ∧ w1 = wx)
  · 
    have ym : bm < w1.heap.size := by omega
    have xm0 := hBm_1 0 _ rfl
    have xm1 := hBm_1 1 _ rfl
    have xm2 := hBm_1 2 _ rfl
    have xm3 := hBm_1 3 _ rfl
    have xm4 := hBm_1 4 _ rfl
    have xm5 := hBm_1 5 _ rfl
    have xm6 := hBm_1 6 _ rfl
    have xm7 := hBm_1 7 _ rfl
    have xm8 := hBm_1 8 _ rfl
    have xm9 := hBm_1 9 _ rfl
    have fm := hFm_1
    cases W <;> cases hl : m.lets <;> rw [hl] at xm4
    · 
      go_wp2
      go_meet
      exact ⟨by simp [hl], rfl⟩
    · 
      go_wp2
      go_meet
      exact ⟨by simp [hl], rfl⟩
    · 
      go_wp2
      go_meet
      exact ⟨by simp [hl], rfl⟩
    · 
      go_wp2
      go_meet
      exact ⟨by simp [hl], rfl⟩
  obtain ⟨rfl, hwc⟩ := hcut
  subst hwc
  go_upto_if 25 with fail
  go_cut [] (fun wx => Bx wx bm [(.slice (some ⟨g1, o1, none⟩) 4 c1), .int .i64 ((mSample m irq).pc), (.slice (some ⟨g2, o2, none⟩) 64 c2), .int .i64 ((mSample m irq).save), .bool (mSample m irq).lets, .bool (mSample m irq).waits, .int .i64 ((mSample m irq).halt), (.slice A3 m.ins.length c3), (.slice A4 m.outs.length c4), .int .i64 ((mSample m irq).count)] ∧ (∀ oo, wx.frozen? ⟨bm, oo, none⟩ = false) ∧ Mach 3 lo X wx g1 o1 c1 g2 o2 c2 (.slice A3 m.ins.length c3) (.slice A4 m.outs.length c4) (mSample m irq) ∧ Turn (bm :: mfoot g1 g2 (.slice A4 m.outs.length c4)) w wx ∧ w.heap.size ≤ wx.heap.size)
  · 
    have ym : bm < w1.heap.size := by omega
    have xm0 := hBm_1 0 _ rfl
    have xm1 := hBm_1 1 _ rfl
    have xm2 := hBm_1 2 _ rfl
    have xm3 := hBm_1 3 _ rfl
    have xm4 := hBm_1 4 _ rfl
    have xm5 := hBm_1 5 _ rfl
    have xm6 := hBm_1 6 _ rfl
    have xm7 := hBm_1 7 _ rfl
    have xm8 := hBm_1 8 _ rfl
    have xm9 := hBm_1 9 _ rfl
    have fm := hFm_1
    cases hb : (W && m.lets)
    · 
      have HV := hide (show mSample m irq = { m with waits := W } by unfold mSample; rw [hW, hb]; rfl)
      go_wp2
      go_meet
      rw [HV.out]
      exact ⟨hBm_1, hFm_1, hM1.same (m' := { m with waits := W }) rfl rfl rfl rfl, ht1, hs1⟩
    · 
      have HV := hide (show mSample m irq = { m with waits := false, lets := false, save := m.pc, pc := 48 } by unfold mSample; rw [hW, hb]; rfl)
      go_wp2
      go_meet
      rw [HV.out]
      have b_0 : Bx (w1.setCell ⟨bm, 5, none⟩ (.bool false)) bm [(.slice (some ⟨g1, o1, none⟩) 4 c1), .int .i64 m.pc, (.slice (some ⟨g2, o2, none⟩) 64 c2), .int .i64 m.save, .bool m.lets, (.bool false), .int .i64 m.halt, (.slice A3 m.ins.length c3), (.slice A4 m.outs.length c4), .int .i64 m.count] := by have := Bx.put hBm_1 (j := 5) (by simp) (.bool false); simpa using this
      have b_1 : Bx ((w1.setCell ⟨bm, 5, none⟩ (.bool false)).setCell ⟨bm, 4, none⟩ (.bool false)) bm [(.slice (some ⟨g1, o1, none⟩) 4 c1), .int .i64 m.pc, (.slice (some ⟨g2, o2, none⟩) 64 c2), .int .i64 m.save, (.bool false), (.bool false), .int .i64 m.halt, (.slice A3 m.ins.length c3), (.slice A4 m.outs.length c4), .int .i64 m.count] := by have := Bx.put b_0 (j := 4) (by simp) (.bool false); simpa using this
      have b_2 : Bx (((w1.setCell ⟨bm, 5, none⟩ (.bool false)).setCell ⟨bm, 4, none⟩ (.bool false)).setCell ⟨bm, 3, none⟩ (.int .i64 m.pc)) bm [(.slice (some ⟨g1, o1, none⟩) 4 c1), .int .i64 m.pc, (.slice (some ⟨g2, o2, none⟩) 64 c2), (.int .i64 m.pc), (.bool false), (.bool false), .int .i64 m.halt, (.slice A3 m.ins.length c3), (.slice A4 m.outs.length c4), .int .i64 m.count] := by have := Bx.put b_1 (j := 3) (by simp) (.int .i64 m.pc); simpa using this
      have b_3 : Bx ((((w1.setCell ⟨bm, 5, none⟩ (.bool false)).setCell ⟨bm, 4, none⟩ (.bool false)).setCell ⟨bm, 3, none⟩ (.int .i64 m.pc)).setCell ⟨bm, 1, none⟩ (.int .i64 48)) bm [(.slice (some ⟨g1, o1, none⟩) 4 c1), (.int .i64 48), (.slice (some ⟨g2, o2, none⟩) 64 c2), (.int .i64 m.pc), (.bool false), (.bool false), .int .i64 m.halt, (.slice A3 m.ins.length c3), (.slice A4 m.outs.length c4), .int .i64 m.count] := by have := Bx.put b_2 (j := 1) (by simp) (.int .i64 48); simpa using this
      have hBF : Bx ((((w1.setCell ⟨bm, 5, none⟩ (.bool false)).setCell ⟨bm, 4, none⟩ (.bool false)).setCell ⟨bm, 3, none⟩ (.int .i64 m.pc)).setCell ⟨bm, 1, none⟩ (.int .i64 48)) bm [(.slice (some ⟨g1, o1, none⟩) 4 c1), (.int .i64 48), (.slice (some ⟨g2, o2, none⟩) 64 c2), (.int .i64 m.pc), (.bool false), (.bool false), .int .i64 m.halt, (.slice A3 m.ins.length c3), (.slice A4 m.outs.length c4), .int .i64 m.count] := b_3
      have hFF : ∀ oo, ((((w1.setCell ⟨bm, 5, none⟩ (.bool false)).setCell ⟨bm, 4, none⟩ (.bool false)).setCell ⟨bm, 3, none⟩ (.int .i64 m.pc)).setCell ⟨bm, 1, none⟩ (.int .i64 48)).frozen? ⟨bm, oo, none⟩ = false := fz_hold hFm_1
      exact ⟨hBF, hFF, Mach.same ((Mach.far (Mach.far (Mach.far (Mach.far hM1 hbY (p := ⟨bm, 5, none⟩) (.bool false)) hbY (p := ⟨bm, 4, none⟩) (.bool false)) hbY (p := ⟨bm, 3, none⟩) (.int .i64 m.pc)) hbY (p := ⟨bm, 1, none⟩) (.int .i64 48))) (m' := ({ m with waits := false, lets := false, save := m.pc, pc := 48 } : MchMach)) rfl rfl rfl rfl, (((ht1.set (.inl (by simp)) _).set (.inl (by simp)) _).set (.inl (by simp)) _).set (.inl (by simp)) _, by simpa using hs1⟩
  clear hM1
  obtain ⟨hBm_2, hFm_2, hM2, ht2, hs2⟩ := hcut
  obtain ⟨w2, hwc⟩ : ∃ w2 : World, w2 = wc := ⟨_, rfl⟩
  subst hwc
  clear hBm_1 hFm_1
  clear ht1
  have hks := hk.sample irq
  have hcs : (mSample m irq).count < 1000000 := by rw [(mSample_same m irq).2.2.2.2]; exact hc
  have hsp0 := hks.p0
  have hsp1 := hks.p1
  have e4 : m.outs.length = (mSample m irq).outs.length := by rw [(mSample_same m irq).2.2.2.1]
  have e3 : m.ins.length = (mSample m irq).ins.length := by rw [(mSample_same m irq).2.2.1]
  have hn4' : (mSample m irq).outs.length ≤ 4194304 := by rw [← e4]; exact hn4
  rw [e4, e3] at hM2 hBm_2
  rw [e4] at ht2 hown hfoot hb4_ hfl
  have HE := hide e4
  clear e3 e4 hn4 hl3 hl4 hM hBm hFm
  have HG := hide (show mAct m irq = (if 64 ≤ (mSample m irq).pc then { (mSample m irq) with halt := 4 } else if insTakeB ((mSample m irq).word (mSample m irq).pc) then mDo (mSample m irq) (insOf ((mSample m irq).word (mSample m irq).pc)) else { (mSample m irq) with halt := 2 }) from rfl)
  generalize (mSample m irq) = ms at *
  have hF2 := hF.turn ht2 hfl
  have hlt := hM2.lt
  have yg2 : g2 < w2.heap.size := hlt.2.1
  clear hlt
  by_cases hp : 64 ≤ ms.pc
  · 
    have q3 : decide (64 ≤ ms.pc) = true := decide_eq_true hp
    have HV := hide (HG.out.trans (if_pos hp))
    have ym : bm < w2.heap.size := by omega
    have xm0 := hBm_2 0 _ rfl
    have xm1 := hBm_2 1 _ rfl
    have xm2 := hBm_2 2 _ rfl
    have xm3 := hBm_2 3 _ rfl
    have xm4 := hBm_2 4 _ rfl
    have xm5 := hBm_2 5 _ rfl
    have xm6 := hBm_2 6 _ rfl
    have xm7 := hBm_2 7 _ rfl
    have xm8 := hBm_2 8 _ rfl
    have xm9 := hBm_2 9 _ rfl
    have fm := hFm_2
    go_wp2
    clear xm0 xm1 xm2 xm3 xm4 xm5 xm6 xm7 xm8 xm9 ym
    clear fm
    have b_0 : Bx (w2.setCell ⟨bm, 6, none⟩ (.int .i64 4)) bm [(.slice (some ⟨g1, o1, none⟩) 4 c1), .int .i64 ms.pc, (.slice (some ⟨g2, o2, none⟩) 64 c2), .int .i64 ms.save, .bool ms.lets, .bool ms.waits, (.int .i64 4), (.slice A3 ms.ins.length c3), (.slice A4 ms.outs.length c4), .int .i64 ms.count] := by have := Bx.put hBm_2 (j := 6) (by simp) (.int .i64 4); simpa using this
    have hBF : Bx (w2.setCell ⟨bm, 6, none⟩ (.int .i64 4)) bm [(.slice (some ⟨g1, o1, none⟩) 4 c1), .int .i64 ms.pc, (.slice (some ⟨g2, o2, none⟩) 64 c2), .int .i64 ms.save, .bool ms.lets, .bool ms.waits, (.int .i64 4), (.slice A3 ms.ins.length c3), (.slice A4 ms.outs.length c4), .int .i64 ms.count] := b_0
    have hFF : ∀ oo, (w2.setCell ⟨bm, 6, none⟩ (.int .i64 4)).frozen? ⟨bm, oo, none⟩ = false := fz_hold hFm_2
    (try simp only [Exit.inBlock, Exit.then])
    refine bodyPost_ret (results_none rfl _ _ _) rfl ?_
    rw [HV.out, HE.out]
    exact ⟨rfl, _, _, hBF, hFF, Mach.same ((Mach.far hM2 hbY (p := ⟨bm, 6, none⟩) (.int .i64 4))) (m' := ({ ms with halt := 4 } : MchMach)) rfl rfl rfl rfl, (Turn.hold ht2).set (.inl (by simp)) _, fun q hq => .inl hq⟩
  · 
    have HP := hide hp
    obtain ⟨P, hP⟩ := Int.eq_ofNat_of_zero_le hsp0
    have hP6 : P < 64 := by omega
    have q3 : decide (64 ≤ ms.pc) = false := decide_eq_false hp
    have z2 : ms.pc < 64 := by omega
    have hP2 : ms.pc.toNat = P := by omega
    have rp := hM2.memAt hP6
    have HW := hide (show ms.word ms.pc = ms.word (P : Int) by rw [hP])
    clear hP
    obtain ⟨op, D, a, k, hI, hop, hD, ha, hk0, hk1, hkc⟩ := insTake_form (ms.word (P : Int))
    have hmore := insTake_more hI
    have ym : bm < w2.heap.size := by omega
    have xm0 := hBm_2 0 _ rfl
    have xm1 := hBm_2 1 _ rfl
    have xm2 := hBm_2 2 _ rfl
    have xm3 := hBm_2 3 _ rfl
    have xm4 := hBm_2 4 _ rfl
    have xm5 := hBm_2 5 _ rfl
    have xm6 := hBm_2 6 _ rfl
    have xm7 := hBm_2 7 _ rfl
    have xm8 := hBm_2 8 _ rfl
    have xm9 := hBm_2 9 _ rfl
    have fm := hFm_2
    go_upto_region 6 with fail
    go_cut [4, 5] (fun v u wx => ∃ g, v = .pointer (some ⟨g, 0, none⟩) ∧ u = .bool (insTakeB (ms.word (P : Int))) ∧ w2.heap.size ≤ g ∧ g < wx.heap.size ∧ Ext w2 wx ∧ Bx wx g [.int .i64 op, .int .i64 (D : Int), .int .i64 (a : Int), .int .i64 k] ∧ (∀ oo, wx.frozen? ⟨g, oo, none⟩ = false))
    · 
      have hS : ∀ w', Ext w2 w' → ∀ bb oo, bb < w2.heap.size → w'.cell? ⟨bb, oo, none⟩ = w2.cell? ⟨bb, oo, none⟩ := fun w' hx bb oo hb => hx.cell hb
      refine wp_region_plan (fun w' => Ext w2 w') 16 (.float 0 (.float 1 (.float 2 (.float 3 (.float 4 (.float 5 (.float 6 (.float 7 (.float 8 (.float 9 (.fork 10 14 (.float 11 (.float 12 (.float 13 (.chain 14 (.chain 15 (.tail 16)))))) (.chain 10 (.float 11 (.float 12 (.float 13 (.chain 15 (.tail 16))))))))))))))))) (by kernel_rfl) (by kernel_rfl) (Ext.refl _).drew ?_
      iterate 10 ((refine Plan.float_step (v := ?_) rfl (by rfl) (fun _ _ _ h => h) (fun w' hSw => ?_) ?_; rotate_left; · (go_simp; try with_reducible rfl)); (try simp only [Act.put, List.setIfInBounds_toArray, List.set_cons_zero, List.set_cons_succ]))
      refine Plan.fork_step ?_ ?_
      · 
        refine Plan.chain_step rfl (fun K hK => ?_)
        go_simp
        refine (implInsTake_any _ _ lf (hF2.ext Ext.auto)).mono ?_
        rintro e w9 ⟨rfl, hy⟩
        have hx9 : Ext w2 w9 := Ext.trans Ext.auto hy
        have hs9 := hx9.size
        simp only [hI]
        refine hK.out _ _ hx9 ?_
        clear hK
        (try simp only [Act.put, List.setIfInBounds_toArray, List.set_cons_zero, List.set_cons_succ])
        iterate 3 ((refine Plan.float_step (v := ?_) rfl (by rfl) (fun _ _ _ h => h) (fun w' hSw => ?_) ?_; rotate_left; · (go_simp; try with_reducible rfl)); (try simp only [Act.put, List.setIfInBounds_toArray, List.set_cons_zero, List.set_cons_succ]))
        refine Plan.chain_step rfl (fun K hK => ?_)
        go_simp
        refine hK.out _ _ (hx9.alloc _) ?_
        clear hK
        (try simp only [Act.put, List.setIfInBounds_toArray, List.set_cons_zero, List.set_cons_succ])
        have hBz : Bx (w9.alloc (Obj.cells #[.int .i64 0, .int .i64 0, .int .i64 0, .int .i64 0] 44)) w9.heap.size [.int .i64 0, .int .i64 0, .int .i64 0, .int .i64 0] := Bx.new w9 #[.int .i64 0, .int .i64 0, .int .i64 0, .int .i64 0] 44
        have fz9 : ∀ oo, (w9.alloc (Obj.cells #[.int .i64 0, .int .i64 0, .int .i64 0, .int .i64 0] 44)).frozen? ⟨w9.heap.size, oo, none⟩ = false := fz_new w9 #[.int .i64 0, .int .i64 0, .int .i64 0, .int .i64 0] 44 rfl
        have zz := hBz 0 _ rfl
        have zz1 := hBz 1 _ rfl
        have zz2 := hBz 2 _ rfl
        have zz3 := hBz 3 _ rfl
        have hg9 : w9.heap.size < (w9.alloc (Obj.cells #[.int .i64 0, .int .i64 0, .int .i64 0, .int .i64 0] 44)).heap.size := by simp
        have hxa := hx9.alloc (Obj.cells #[.int .i64 0, .int .i64 0, .int .i64 0, .int .i64 0] 44)
        have hga : w2.heap.size ≤ w9.heap.size := hs9
        generalize hwa : w9.alloc (Obj.cells #[.int .i64 0, .int .i64 0, .int .i64 0, .int .i64 0] 44) = wa at *
        refine Plan.chain_step rfl (fun K hK => ?_)
        go_simp
        refine hK.out _ _ (Ext.hold hxa) ?_
        clear hK
        (try simp only [Act.put, List.setIfInBounds_toArray, List.set_cons_zero, List.set_cons_succ])
        refine Plan.tail_step ?_
        simp only [List.drop_succ_cons, List.drop_zero]
        clear hS
        go_wp2_with fail
        go_meet
        exact ⟨_, rfl, rfl, hga, by simpa using hg9, Ext.hold hxa, hBz.store4 rfl _ _ _ _, fz_hold fz9⟩
      · 
        refine Plan.chain_step rfl (fun K hK => ?_)
        go_simp
        refine hK.out _ _ (((Ext.refl _).drew).alloc _) ?_
        clear hK
        (try simp only [Act.put, List.setIfInBounds_toArray, List.set_cons_zero, List.set_cons_succ])
        refine Plan.chain_step rfl (fun K hK => ?_)
        go_simp
        refine (implInsTake_any _ _ lf (hF2.ext Ext.auto)).mono ?_
        rintro e w9 ⟨rfl, hy⟩
        have hx9 : Ext w2 w9 := Ext.trans Ext.auto hy
        have hs9 := hx9.size
        have hg9 : w2.heap.size < w9.heap.size := by have := hy.size; simp at this; omega
        have hBz : Bx w9 w2.heap.size [.int .i64 0, .int .i64 0, .int .i64 0, .int .i64 0] := hy.bx (Bx.new w2.drew #[.int .i64 0, .int .i64 0, .int .i64 0, .int .i64 0] 44) (by simp)
        have fz9 : ∀ oo, w9.frozen? ⟨w2.heap.size, oo, none⟩ = false := fun oo => (hy.frozen (by simp)).trans (fz_new w2.drew #[.int .i64 0, .int .i64 0, .int .i64 0, .int .i64 0] 44 rfl oo)
        simp only [hI]
        refine hK.out _ _ hx9 ?_
        clear hK
        (try simp only [Act.put, List.setIfInBounds_toArray, List.set_cons_zero, List.set_cons_succ])
        iterate 3 ((refine Plan.float_step (v := ?_) rfl (by rfl) (fun _ _ _ h => h) (fun w' hSw => ?_) ?_; rotate_left; · (go_simp; try with_reducible rfl)); (try simp only [Act.put, List.setIfInBounds_toArray, List.set_cons_zero, List.set_cons_succ]))
        have zz := hBz 0 _ rfl
        have zz1 := hBz 1 _ rfl
        have zz2 := hBz 2 _ rfl
        have zz3 := hBz 3 _ rfl
        refine Plan.chain_step rfl (fun K hK => ?_)
        go_simp
        refine hK.out _ _ (Ext.hold hx9) ?_
        clear hK
        (try simp only [Act.put, List.setIfInBounds_toArray, List.set_cons_zero, List.set_cons_succ])
        refine Plan.tail_step ?_
        simp only [List.drop_succ_cons, List.drop_zero]
        clear hS
        go_wp2_with fail
        go_meet
        exact ⟨_, rfl, rfl, Nat.le_refl _, by simpa using hg9, Ext.hold hx9, hBz.store4 rfl _ _ _ _, fz_hold fz9⟩
    clear xm0 xm1 xm2 xm3 xm4 xm5 xm6 xm7 xm8 xm9 ym
    clear fm
    obtain ⟨g, rfl, rfl, hg0, hg1, hx, hBi, hFi⟩ := hcut
    obtain ⟨w3, hwc⟩ : ∃ w3 : World, w3 = wc := ⟨_, rfl⟩
    subst hwc
    have hM3 := hM2.ext hx
    have ht3 := ht2.call hx
    have hs3 : w.heap.size ≤ w3.heap.size := by have := hx.size; omega
    have hBm_3 := hBm_2.keepE hx (by omega)
    have hFm_3 : ∀ oo, w3.frozen? ⟨bm, oo, none⟩ = false := fun oo => (hx.frozen (by omega)).trans (hFm_2 oo)
    clear hM2 ht2 hBm_2 hFm_2 hF2 rp
    cases qt : insTakeB (ms.word (P : Int))
    · 
      have HV := hide (HG.out.trans (by rw [if_neg (show ¬ (64 ≤ ms.pc) by have := HP.out; omega), HW.out, qt]; rfl : _ = ({ ms with halt := 2 } : MchMach)))
      have ym : bm < w3.heap.size := by omega
      have xm0 := hBm_3 0 _ rfl
      have xm1 := hBm_3 1 _ rfl
      have xm2 := hBm_3 2 _ rfl
      have xm3 := hBm_3 3 _ rfl
      have xm4 := hBm_3 4 _ rfl
      have xm5 := hBm_3 5 _ rfl
      have xm6 := hBm_3 6 _ rfl
      have xm7 := hBm_3 7 _ rfl
      have xm8 := hBm_3 8 _ rfl
      have xm9 := hBm_3 9 _ rfl
      have fm := hFm_3
      go_wp2
      clear xm0 xm1 xm2 xm3 xm4 xm5 xm6 xm7 xm8 xm9 ym
      clear fm
      have b_0 : Bx (w3.setCell ⟨bm, 6, none⟩ (.int .i64 2)) bm [(.slice (some ⟨g1, o1, none⟩) 4 c1), .int .i64 ms.pc, (.slice (some ⟨g2, o2, none⟩) 64 c2), .int .i64 ms.save, .bool ms.lets, .bool ms.waits, (.int .i64 2), (.slice A3 ms.ins.length c3), (.slice A4 ms.outs.length c4), .int .i64 ms.count] := by have := Bx.put hBm_3 (j := 6) (by simp) (.int .i64 2); simpa using this
      have hBF : Bx (w3.setCell ⟨bm, 6, none⟩ (.int .i64 2)) bm [(.slice (some ⟨g1, o1, none⟩) 4 c1), .int .i64 ms.pc, (.slice (some ⟨g2, o2, none⟩) 64 c2), .int .i64 ms.save, .bool ms.lets, .bool ms.waits, (.int .i64 2), (.slice A3 ms.ins.length c3), (.slice A4 ms.outs.length c4), .int .i64 ms.count] := b_0
      have hFF : ∀ oo, (w3.setCell ⟨bm, 6, none⟩ (.int .i64 2)).frozen? ⟨bm, oo, none⟩ = false := fz_hold hFm_3
      (try simp only [Exit.inBlock, Exit.then])
      refine bodyPost_ret (results_none rfl _ _ _) rfl ?_
      rw [HV.out, HE.out]
      exact ⟨rfl, _, _, hBF, hFF, Mach.same ((Mach.far hM3 hbY (p := ⟨bm, 6, none⟩) (.int .i64 2))) (m' := ({ ms with halt := 2 } : MchMach)) rfl rfl rfl rfl, (Turn.hold ht3).set (.inl (by simp)) _, fun q hq => .inl hq⟩
    · 
      have HV := hide (HG.out.trans (by rw [if_neg (show ¬ (64 ≤ ms.pc) by have := HP.out; omega), HW.out, if_pos qt, ← hI]; unfold insTake; rw [if_pos qt] : _ = (mDo ms ⟨op, (D : Int), (a : Int), k⟩)))
      have yi : g < w3.heap.size := hg1
      have xi0 := hBi 0 _ rfl
      have xi1 := hBi 1 _ rfl
      have xi2 := hBi 2 _ rfl
      have xi3 := hBi 3 _ rfl
      go_wp2_with fail
      refine (exec_any ms _ _ _ _ _ _ _ _ _ _ _ hM3 hks hcs hn4' op D a k hD ha hk0 hk1 hop hkc hmore.1 hmore.2 bm hbX hBm_3 hFm_3).mono ?_
      rintro e w9 ⟨rfl, v3', v4', hBF, hFF, hMF, hy, ho4⟩
      go_wp2
      (try simp only [Exit.inBlock, Exit.then])
      refine bodyPost_end (results_none rfl _ _ _) rfl ?_
      rw [HV.out, HE.out]
      exact ⟨rfl, v3', v4', hBF, hFF, hMF, ht3.trans hy, fun q hq => (ho4 q hq).imp id (fun h => by omega)⟩

end Go.Proofs.YtabldlhigjhkeaaDoor
