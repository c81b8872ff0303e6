/-
  What the laws on machines call.
-/
import Derived.Test.YtabldlhigjhkeaaDoorDrawT
import Derived.Deep.DeepCutAuto
namespace Go.Proofs.YtabldlhigjhkeaaDoor
open Go.RowKit

set_option linter.unusedVariables false
set_option linter.unusedSimpArgs false
set_option maxRecDepth 100000

theorem planNo {P : Program} {Q : Exit → Act → World → Prop} {S : World → Prop} {ops : List Oper} {n i : Nat} {r : Plan} {o : Oper} {a : Act} {w : World} (ho : ops[i]? = some o) (hw : Region.wanted o (yielded ops.toArray a.tmps) = false)
    (hQ : ∀ c a w, Q (.panic c) (a.put o.dst undef) w → Q (.panic c) a w) (h : r.wp P ops Q S n (a.put o.dst undef) w) : (Plan.float i r).wp P ops Q S n a w :=
  ⟨o, undef, ho, .inr ⟨hw, rfl⟩, hQ, h⟩
theorem Sl.dropIf {α : Type} [Rep α] {w : World} {S : Nat → Prop} {A : Option Addr} {n c : Nat} {l : List α} (h : Sl w S (.slice A n c) l) (hl : 0 < l.length) (hsz : Rep.sz α = 1 := by rfl) :
    ∃ b off o3, A = some ⟨b, off, none⟩ ∧ (if c = 1 then some (⟨b, off, none⟩ : Addr) else some ⟨b, off + 1, none⟩) = some ⟨b, o3, none⟩ ∧ n ≤ c ∧ c ≤ maxLen ∧ Sl w S (.slice (some ⟨b, o3, none⟩) (n - 1) (c - 1)) (l.drop 1) := by
  obtain ⟨A', c', h1, h2, h3, h0, h4⟩ := h
  injection h1 with e1 e2 e3
  subst e1 e2 e3
  have hne : l ≠ [] := by intro e; simp [e] at hl
  obtain ⟨b, off, rfl, hb, hel⟩ := h4 hne
  by_cases hc : c = 1
  · refine ⟨b, off, off, rfl, by rw [if_pos hc], h2, h3, ⟨_, _, by rw [List.length_drop], by rw [List.length_drop]; omega, by omega, fun h => by simp at h, fun hd => absurd ?_ hd⟩⟩
    exact List.eq_nil_of_length_eq_zero (by rw [List.length_drop]; omega)
  · refine ⟨b, off, off + 1, rfl, by rw [if_neg hc], h2, h3, ?_⟩
    have hsl : Sl w S (.slice (some ⟨b, off, none⟩) l.length c) l := ⟨_, _, rfl, h2, h3, h0, fun _ => ⟨b, off, rfl, hb, hel⟩⟩
    by_cases h1 : 1 < l.length
    · have hd := hsl.drop (k := 1) h1
      rw [hsz, Nat.mul_one] at hd
      exact hd
    · exact ⟨_, _, by rw [List.length_drop], by rw [List.length_drop]; omega, by omega, fun h => by simp at h, fun hd => absurd (List.eq_nil_of_length_eq_zero (by rw [List.length_drop]; omega)) hd⟩

theorem laOk_any (w : World) : Calls Tryd.prog 30 #[] w fun e w' => e = .returned (.bool true) ∧ w = w' := by
  go_enter Tryd.func30, Tryd.ntmps30
  go_wp2_with (go_at_call 57; refine (implWrdOk_any _ _).mono ?_; rintro e w' ⟨rfl, rfl⟩)
  go_ret
  exact ⟨rfl, rfl⟩

theorem laIntsN_any (la lb : List Int) (va vb : Value) (w : World) (ha : Sl w (Old w) va la) (hb : Sl w (Old w) vb lb) :
    Calls Tryd.prog 35 #[va, vb] w fun e w' => e = .returned (.bool (decide (la = lb))) ∧ ∃ n, w' = w.drewN n := by
  obtain ⟨A, ca, rfl, hla, hma⟩ := ha.form
  obtain ⟨B, cb, rfl, hlb, hmb⟩ := hb.form
  unfold maxLen at hma hmb
  by_cases hl : la.length = lb.length
  · have hn : ((la.length : Int) != (lb.length : Int)) = false := by simp [hl]
    have HL := hide hl
    clear hl
    go_enter Tryd.func35, Tryd.ntmps35
    go_wp2
    go_loopw [5] (fun i wr => ∃ k : Nat, k ≤ la.length ∧ i = .int .i64 k ∧ (∃ n, wr = w.drewN n) ∧ la.take k = lb.take k) (fun i _ => la.length - (intOf i).toNat)
    case atStart => exact ⟨0, by omega, rfl, ⟨0, rfl⟩, rfl⟩
    case round =>
      obtain ⟨k, hk, rfl, ⟨n, rfl⟩, ht⟩ := hrel
      have HT := hide ht
      clear ht
      by_cases hlt : k < la.length
      · have hlt' : k < lb.length := by have := HL.out; omega
        obtain ⟨b, off, rfl, hbo, hk0, e0⟩ := at_Int ha hlt
        obtain ⟨b', off', rfl, hbo', hk1, g0⟩ := at_Int hb hlt'
        have z0 : (0 : Int) ≤ (k : Int) := by omega
        have z1 : (k : Int) < (la.length : Int) := by omega
        have z2 : (k : Int) < (lb.length : Int) := by omega
        have TS := hide (take_both la lb k hlt hlt' HT.out)
        go_wp2_with fail
        by_cases hq : la[k] = lb[k]
        · have d1 : (la[k] != lb[k]) = false := by simp [hq]
          have HQ := hide hq
          clear hq
          go_quiet (fail)
          go_wp2
          go_roundw
          case rel => exact ⟨k + 1, by omega, by go_num, ⟨n + nq, by simp⟩, TS.out.1 HQ.out⟩
          case measure => simp [intOf]; omega
        · have d1 : (la[k] != lb[k]) = true := by simp [hq]
          have HQ := hide hq
          clear hq
          go_quiet (fail)
          go_wp2
          go_ret
          exact ⟨ret_no (TS.out.2 HQ.out), n + nq, by simp⟩
      · obtain rfl : k = la.length := by omega
        go_wp2
        go_ret
        exact ⟨ret_yes (take_all la lb HL.out HT.out), _, rfl⟩
  · have hn : ((la.length : Int) != (lb.length : Int)) = true := by simp; omega
    have HL := hide hl
    clear hl
    go_enter Tryd.func35, Tryd.ntmps35
    go_wp2
    go_ret
    exact ⟨ret_no (fun e => HL.out (by rw [e])), 0, rfl⟩
theorem laInts_any (la lb : List Int) (va vb : Value) (w : World) (ha : Sl w (Old w) va la) (hb : Sl w (Old w) vb lb) :
    Calls Tryd.prog 35 #[va, vb] w fun e w' => e = .returned (.bool (decide (la = lb))) ∧ Ext w w' :=
  (laIntsN_any la lb va vb w ha hb).mono fun e w' ⟨h, n, hn⟩ => ⟨h, by rw [hn]; exact (Ext.refl _).drewN n⟩

def MRet (x : MchMach) (w : World) (e : Ending) (w' : World) : Prop := ∃ (A1 A2 A3 A4 : Option Addr) (c1 c2 c3 c4 : Nat), e = .returned (.agg #[.slice A1 x.regs.length c1, .int .i64 x.pc, .slice A2 x.mem.length c2, .int .i64 x.save, .bool x.lets, .bool x.waits, .int .i64 x.halt, .slice A3 x.ins.length c3, .slice A4 x.outs.length c4, .int .i64 x.count]) ∧ Sl w' (Old w') (.slice A1 x.regs.length c1) x.regs ∧ Sl w' (Old w') (.slice A2 x.mem.length c2) x.mem ∧ Sl w' (Old w') (.slice A3 x.ins.length c3) x.ins ∧ Sl w' (Old w') (.slice A4 x.outs.length c4) x.outs ∧ Ext w w'
theorem MRet.of_own {x : MchMach} {w w' : World} {e : Ending} {r1 r2 r3 r4 : Value} {F1 F2 F3 F4 : List Nat} (he : e = .returned (.agg #[r1, .int .i64 x.pc, r2, .int .i64 x.save, .bool x.lets, .bool x.waits, .int .i64 x.halt, r3, r4, .int .i64 x.count])) (h1 : OwnSl w' r1 x.regs F1) (h2 : OwnSl w' r2 x.mem F2) (h3 : OwnSl w' r3 x.ins F3) (h4 : OwnSl w' r4 x.outs F4) (hf : Fr w w' (F1 ++ F2 ++ F3 ++ F4)) (hE : Ext w w') : MRet x w e w' := by
  obtain ⟨A1, c1, rfl, -, -⟩ := h1.sl.form
  obtain ⟨A2, c2, rfl, -, -⟩ := h2.sl.form
  obtain ⟨A3, c3, rfl, -, -⟩ := h3.sl.form
  obtain ⟨A4, c4, rfl, -, -⟩ := h4.sl.form
  exact ⟨A1, A2, A3, A4, c1, c2, c3, c4, he, h1.old hf.inl.inl.inl, h2.old hf.inl.inl.inr, h3.old hf.inl.inr, h4.old hf.inr, hE⟩
theorem MRet.of_own4 {x : MchMach} {w w' : World} {e : Ending} {r1 r2 r3 r4 : Value} {X : List Nat} {t lo : Nat} (he : e = .returned (.agg #[r1, .int .i64 x.pc, r2, .int .i64 x.save, .bool x.lets, .bool x.waits, .int .i64 x.halt, r3, r4, .int .i64 x.count])) (h : Own4C t X lo w' r1 r2 r3 r4 x) (hE : Ext w w') : MRet x w e w' := by
  obtain ⟨A1, A2, A3, A4, c1, c2, c3, c4, rfl, rfl, rfl, rfl⟩ := h.form
  obtain ⟨s1, s2, s3, s4⟩ := h.sls
  exact ⟨A1, A2, A3, A4, c1, c2, c3, c4, he, s1, s2, s3, s4, hE⟩

set_option maxHeartbeats 4000000 in
theorem specStep_r (m : MchMach) (irq : Bool) (vm1 vm2 vm3 vm4 : Value) (w : World) (hm1 : Sl w (Old w) vm1 m.regs) (hm2 : Sl w (Old w) vm2 m.mem) (hm3 : Sl w (Old w) vm3 m.ins) (hm4 : Sl w (Old w) vm4 m.outs) (hn1 : m.regs.length ≤ 4194304) (hn2 : m.mem.length ≤ 4194304) (hn3 : m.ins.length ≤ 4194304) (hn4 : m.outs.length ≤ 4194304) :
    Calls Tryd.prog 17 #[.agg #[vm1, .int .i64 m.pc, vm2, .int .i64 m.save, .bool m.lets, .bool m.waits, .int .i64 m.halt, vm3, vm4, .int .i64 m.count], .bool irq] w fun e w' => MRet (mStep m irq) w e w' :=
  (specMchStep_any m irq vm1 vm2 vm3 vm4 w hm1 hm2 hm3 hm4 hn1 hn2 hn3 hn4).mono fun e w' ⟨_, _, _, _, he, h, hE⟩ => MRet.of_own4 he h hE

set_option maxHeartbeats 4000000 in
theorem specRun_r (m : MchMach) (irqs : List Int) (n : Int) (vm1 vm2 vm3 vm4 virqs : Value) (w : World) (hm1 : Sl w (Old w) vm1 m.regs) (hm2 : Sl w (Old w) vm2 m.mem) (hm3 : Sl w (Old w) vm3 m.ins) (hm4 : Sl w (Old w) vm4 m.outs) (hirqs : Sl w (Old w) virqs irqs) (hn1 : m.regs.length ≤ 4194304) (hn2 : m.mem.length ≤ 4194304) (hn3 : m.ins.length ≤ 4194304) (hn4 : m.outs.length ≤ 4194304) (hn5 : m.outs.length ≤ 4190000) :
    Calls Tryd.prog 23 #[.agg #[vm1, .int .i64 m.pc, vm2, .int .i64 m.save, .bool m.lets, .bool m.waits, .int .i64 m.halt, vm3, vm4, .int .i64 m.count], virqs, .int .i64 n] w fun e w' => MRet (mRun m irqs n) w e w' :=
  (specMchRun_p m irqs n vm1 vm2 vm3 vm4 virqs w hm1 hm2 hm3 hm4 hirqs hn1 hn2 hn3 hn4 hn5).mono fun e w' ⟨_, _, _, _, he, h, hE⟩ => MRet.of_own4 he h hE

end Go.Proofs.YtabldlhigjhkeaaDoor
