/-
  Words held against memory: the program and the reference.
-/
import Derived.Test.YtjemadbhpbbhlaaCacPut
import Derived.Test.YtjemadbhpbbhlaaRegLib
import Derived.Deep.DeepCutAuto
namespace Go.Proofs.Ytjemadbhpbbhlaa
open Go.RowKit

set_option linter.unusedVariables false
set_option linter.unusedSimpArgs false
set_option maxRecDepth 100000

theorem planNo {P : Program} {Q : Exit → Act → World → Prop} {S : World → Prop} {ops : List Oper} {n i : Nat} {r : Plan} {o : Oper} {a : Act} {w : World} (ho : ops[i]? = some o) (hw : Region.wanted o (yielded ops.toArray a.tmps) = false)
    (hQ : ∀ c a w, Q (.panic c) (a.put o.dst undef) w → Q (.panic c) a w) (h : r.wp P ops Q S n (a.put o.dst undef) w) : (Plan.float i r).wp P ops Q S n a w :=
  ⟨o, undef, ho, .inr ⟨hw, rfl⟩, hQ, h⟩

def thereB (mem : List Int) (P : Nat) (words : List Int) : Bool := (mem.drop P).take words.length == words
def curB (mem : List Int) (a : CacEntry) : Bool := decide (0 ≤ a.block.pc) && thereB mem a.block.pc.toNat a.words
/-- What is kept whose words are still there. -/
def cacDrop (l : List CacEntry) (mem : List Int) : List CacEntry := l.filter (curB mem)
theorem blk_cacDrop (l : List CacEntry) (mem : List Int) : Bulk.blk (cacDrop l mem) ≤ Bulk.blk l := blk_filter _ _
theorem there_all {mem words : List Int} {P : Nat} (h : words.take words.length = (mem.drop P).take words.length) : thereB mem P words = true := by
  unfold thereB; rw [← h, List.take_length]; simp
theorem there_end {mem words : List Int} {P k : Nat} (hk : k < words.length) (h : mem.length ≤ P + k) : thereB mem P words = false := by
  unfold thereB
  rw [beq_eq_false_iff_ne]
  intro e
  have := congrArg List.length e
  simp at this; omega
theorem there_at {mem words : List Int} {P k : Nat} (hk : k < words.length) (h : P + k < mem.length) (hn : mem[P + k] ≠ words[k]) : thereB mem P words = false := by
  unfold thereB
  rw [beq_eq_false_iff_ne]
  intro e
  apply hn
  have h1 : ((mem.drop P).take words.length)[k]? = words[k]? := by rw [e]
  rw [List.getElem?_take, if_pos hk, List.getElem?_drop, List.getElem?_eq_getElem h, List.getElem?_eq_getElem hk] at h1
  exact Option.some.inj h1
theorem there_next {mem words : List Int} {P k : Nat} (hk : k < words.length) (h : P + k < mem.length) (hp : words.take k = (mem.drop P).take k) (hn : mem[P + k] = words[k]) : words.take (k + 1) = (mem.drop P).take (k + 1) := by
  rw [List.take_succ_eq_append_getElem hk, List.take_succ_eq_append_getElem (by simp; omega : k < (mem.drop P).length), hp, List.getElem_drop, hn]
theorem Sl.sub {α : Type} [Rep α] {w : World} {S : Nat → Prop} {b off n c : Nat} {l : List α} (h : Sl w S (.slice (some ⟨b, off, none⟩) n c) l) (P m : Nat) (hP : P + m ≤ l.length) :
    Sl w S (.slice (some ⟨b, off + P * Rep.sz α, none⟩) m (c - P)) ((l.drop P).take m) := by
  obtain ⟨A', c', h1, h2, h3, h4, h5⟩ := h
  injection h1 with e1 e2 e3
  subst e1 e3
  have hl : ((l.drop P).take m).length = m := by simp; omega
  refine ⟨_, c - P, by rw [hl], by rw [hl]; omega, by omega, fun q => by simp at q, fun hne => ?_⟩
  obtain ⟨b', off', e, hb, hh⟩ := h5 (by intro q; subst q; simp at hne)
  injection e with e
  injection e with e1 e2
  subst e1 e2
  refine ⟨b, _, rfl, hb, fun i a ha => ?_⟩
  rw [List.getElem?_take] at ha
  split at ha
  · rw [List.getElem?_drop] at ha
    obtain ⟨vs, k1, k2⟩ := hh (P + i) a ha
    refine ⟨vs, k1, fun j u hu => ?_⟩
    have := k2 j u hu
    rw [Nat.add_mul] at this
    rw [show off + P * Rep.sz α + (i * Rep.sz α + j) = off + (P * Rep.sz α + i * Rep.sz α + j) by omega]
    exact this
  · simp at ha
theorem take_both2 (la lb : List Int) (k : Nat) (ha : k < la.length) (hb : k < lb.length) (h : la.take k = lb.take k) (he : la[k] = lb[k]) : la.take (k + 1) = lb.take (k + 1) := by
  rw [List.take_succ_eq_append_getElem ha, List.take_succ_eq_append_getElem hb, h, he]
theorem ne_at (la lb : List Int) (k : Nat) (ha : k < la.length) (hb : k < lb.length) (he : la[k] ≠ lb[k]) : decide (la = lb) = false := by
  rw [decide_eq_false_iff_not]; intro h; subst h; exact he rfl

set_option maxHeartbeats 8000000 in
theorem equalInts_any (a : List Int) (b : List Int) (va vb : Value) (w : World) (ha : Sl w (Old w) va a) (hb : Sl w (Old w) vb b)  :
    Calls Try.prog 142 #[va, vb] w fun e w' => e = .returned (.bool (decide (a = b))) ∧ Ext w w' := by
  obtain ⟨Aa, ca, rfl, hla, hma⟩ := ha.form
  obtain ⟨Ab, cb, rfl, hlb, hmb⟩ := hb.form
  unfold maxLen at hma hmb
  by_cases hl : a.length = b.length
  rotate_left
  · have hn : ((a.length : Int) != (b.length : Int)) = true := by simp [hl]; try omega
    have HD := hide (show decide (a = b) = false by rw [decide_eq_false_iff_not]; intro h; exact hl (by rw [h]))
    clear hl
    go_enter Try.func142, Try.ntmps142
    go_wp2
    go_ret
    exact ⟨by rw [HD.out]; rfl, Ext.auto⟩
  have hn : ((a.length : Int) != (b.length : Int)) = false := by simp [hl]
  have HL := hide hl
  clear hl
  go_enter Try.func142, Try.ntmps142
  go_wp2
  go_loopw [5, 13] (fun _ i wr => ∃ k : Nat, k ≤ a.length ∧ i = .int .i64 k ∧ Ext w wr ∧ Hid (a.take k = b.take k)) (fun _ i _ => a.length - (intOf i).toNat)
  case atStart => exact ⟨0, by omega, rfl, Ext.refl _, rfl⟩
  case round =>
    obtain ⟨k, hk, rfl, he, HT⟩ := hrel
    obtain ⟨w1, hw1⟩ : ∃ w1 : World, w1 = wr := ⟨_, rfl⟩
    subst hw1
    by_cases hlt : k < a.length
    · have hlt' : k < b.length := by have := HL.out; omega
      obtain ⟨ba, offa, rfl, hba, hka, e0⟩ := at_Int (ha.ext he) hlt
      obtain ⟨bb, offb, rfl, hbb, hkb, g0⟩ := at_Int (hb.ext he) hlt'
      have hba1 : ba < w1.heap.size := hba
      have hbb1 : bb < w1.heap.size := hbb
      have z0 : (0 : Int) ≤ (k : Int) := by omega
      have z1 : (k : Int) < (a.length : Int) := by omega
      have z2 : (k : Int) < (b.length : Int) := by omega
      by_cases hq : a[k] = b[k]
      · 
        have q1 : (a[k] != b[k]) = false := by simp [hq]
        have HN := hide (take_both2 a b k hlt hlt' HT.out hq)
        clear hq
        go_upto_region 6 with fail
        have hS : ∀ w', Ext w1 w' → ∀ bb oo, bb < w1.heap.size → w'.cell? ⟨bb, oo, none⟩ = w1.cell? ⟨bb, oo, none⟩ := fun w' hx bb oo hb => hx.cell hb
        refine wp_region_plan (fun w' => Ext w1 w') 8 (.float 0 (.float 1 (.float 2 (.float 3 (.float 4 (.float 5 (.float 6 (.float 7 (.tail 8))))))))) (by kernel_rfl) (by kernel_rfl) (Ext.refl _).drew ?_
        iterate 8 ((refine Plan.float_step (v := ?_) rfl (by rfl) (fun _ _ _ h => h) (fun w' hSw => ?_) ?_; rotate_left; · (go_simp; try with_reducible rfl)); (try simp only [Act.put, List.setIfInBounds_toArray, List.set_cons_zero, List.set_cons_succ]))
        refine Plan.tail_step ?_
        simp only [List.drop_succ_cons, List.drop_zero]
        clear hS
        go_wp2_with fail
        go_roundw
        case rel => exact ⟨k + 1, by omega, by go_num, he.trans Ext.auto, HN.out⟩
        case measure => (simp [intOf]; try omega)
      · 
        have q1 : (a[k] != b[k]) = true := by simp [hq]
        have HN := hide (ne_at a b k hlt hlt' hq)
        clear hq
        go_upto_region 6 with fail
        have hS : ∀ w', Ext w1 w' → ∀ bb oo, bb < w1.heap.size → w'.cell? ⟨bb, oo, none⟩ = w1.cell? ⟨bb, oo, none⟩ := fun w' hx bb oo hb => hx.cell hb
        refine wp_region_plan (fun w' => Ext w1 w') 8 (.float 0 (.float 1 (.float 2 (.float 3 (.float 4 (.float 5 (.float 6 (.float 7 (.tail 8))))))))) (by kernel_rfl) (by kernel_rfl) (Ext.refl _).drew ?_
        iterate 8 ((refine Plan.float_step (v := ?_) rfl (by rfl) (fun _ _ _ h => h) (fun w' hSw => ?_) ?_; rotate_left; · (go_simp; try with_reducible rfl)); (try simp only [Act.put, List.setIfInBounds_toArray, List.set_cons_zero, List.set_cons_succ]))
        refine Plan.tail_step ?_
        simp only [List.drop_succ_cons, List.drop_zero]
        clear hS
        go_wp2
        go_ret
        exact ⟨by rw [HN.out]; rfl, he.trans Ext.auto⟩
    · 
      obtain rfl : k = a.length := by omega
      have HN := hide (show decide (a = b) = true by rw [decide_eq_true_iff]; have := HT.out; rwa [List.take_length, HL.out, List.take_length] at this)
      go_wp2
      go_ret
      exact ⟨by rw [HN.out]; rfl, he⟩

set_option maxHeartbeats 8000000 in
theorem there_any (a : List Int) (m : List Int) (va vm : Value) (P : Nat) (z : Int) (hz : z = (P : Int)) (hP : P ≤ 9223372036854775807) (w : World) (ha : Sl w (Old w) va a) (hm : Sl w (Old w) vm m)  :
    Calls Try.prog 115 #[va, vm, .int .i64 z] w fun e w' => e = .returned (.bool (thereB m P a)) ∧ Ext w w' := by
  obtain ⟨Aa, ca, rfl, hla, hma⟩ := ha.form
  obtain ⟨Am, cm, rfl, hlm, hmm⟩ := hm.form
  unfold maxLen at hma hmm
  subst hz
  go_enter Try.func115, Try.ntmps115
  go_wp2
  go_loopw [7] (fun i wr => ∃ k : Nat, k ≤ a.length ∧ i = .int .i64 k ∧ Ext w wr ∧ Hid (a.take k = (m.drop P).take k) ∧ (0 < k → P + k ≤ m.length)) (fun i _ => a.length - (intOf i).toNat)
  case atStart => exact ⟨0, by omega, rfl, Ext.refl _, rfl, fun h => absurd h (by omega)⟩
  case round =>
    obtain ⟨k, hk, rfl, he, HT, hpk⟩ := hrel
    obtain ⟨w1, hw1⟩ : ∃ w1 : World, w1 = wr := ⟨_, rfl⟩
    subst hw1
    by_cases hlt : k < a.length
    · have hPk : P + k ≤ 9223372036854775807 := by
        rcases Nat.eq_zero_or_pos k with q | q
        · omega
        · have := hpk q; omega
      clear hpk
      obtain ⟨ba, offa, rfl, hba, hka, e0⟩ := at_Int (ha.ext he) hlt
      have hba1 : ba < w1.heap.size := hba
      have z0 : (0 : Int) ≤ (k : Int) := by omega
      have z1 : (k : Int) < (a.length : Int) := by omega
      have zw : IntKind.i64.wrap ((P : Int) + (k : Int)) = (P : Int) + (k : Int) := by rw [IntKind.wrap_i64]; omega
      by_cases hin : P + k < m.length
      · 
        obtain ⟨bb, offb, rfl, hbb, hkb, g0⟩ := at_Int (hm.ext he) hin
        have hbb1 : bb < w1.heap.size := hbb
        have q0 : decide ((m.length : Int) ≤ (P : Int) + (k : Int)) = false := by simp; omega
        have y0 : (0 : Int) ≤ (P : Int) + (k : Int) := by omega
        have y1 : (P : Int) + (k : Int) < (m.length : Int) := by omega
        have tn : ((P : Int) + (k : Int)).toNat = P + k := by omega
        by_cases hq : m[P + k] = a[k]
        · 
          have q1 : (m[P + k] != a[k]) = false := by simp [hq]
          have HN := hide (there_next hlt hin HT.out hq)
          clear hq
          go_upto_region 4 with fail
          have hS : ∀ w', Ext w1 w' → ∀ bb oo, bb < w1.heap.size → w'.cell? ⟨bb, oo, none⟩ = w1.cell? ⟨bb, oo, none⟩ := fun w' hx bb oo hb => hx.cell hb
          refine wp_region_plan (fun w' => Ext w1 w') 17 (.float 0 (.float 1 (.float 2 (.float 3 (.float 4 (.float 5 (.float 6 (.float 7 (.float 8 (.float 9 (.float 10 (.float 11 (.float 12 (.float 13 (.float 14 (.float 15 (.float 16 (.tail 17)))))))))))))))))) (by kernel_rfl) (by kernel_rfl) (Ext.refl _).drew ?_
          iterate 7 ((refine Plan.float_step (v := ?_) rfl (by rfl) (fun _ _ _ h => h) (fun w' hSw => ?_) ?_; rotate_left; · (go_simp; try with_reducible rfl)); (try simp only [Act.put, List.setIfInBounds_toArray, List.set_cons_zero, List.set_cons_succ]))
          iterate 10 ((first | (refine Plan.float_step (v := ?_) rfl (by rfl) (fun _ _ _ h => h) (fun w' hSw => ?_) ?_; rotate_left; · (go_simp; try with_reducible rfl)) | (refine planNo rfl (by rfl) (fun _ _ _ h => h) ?_)); (try simp only [Act.put, List.setIfInBounds_toArray, List.set_cons_zero, List.set_cons_succ]))
          refine Plan.tail_step ?_
          simp only [List.drop_succ_cons, List.drop_zero]
          clear hS
          go_wp2_with fail
          go_roundw
          case rel => exact ⟨k + 1, by omega, by go_num, he.trans Ext.auto, HN.out, fun _ => by omega⟩
          case measure => (simp [intOf]; try omega)
        · 
          have q1 : (m[P + k] != a[k]) = true := by simp [hq]
          have HN := hide (there_at hlt hin hq)
          clear hq
          go_upto_region 4 with fail
          have hS : ∀ w', Ext w1 w' → ∀ bb oo, bb < w1.heap.size → w'.cell? ⟨bb, oo, none⟩ = w1.cell? ⟨bb, oo, none⟩ := fun w' hx bb oo hb => hx.cell hb
          refine wp_region_plan (fun w' => Ext w1 w') 17 (.float 0 (.float 1 (.float 2 (.float 3 (.float 4 (.float 5 (.float 6 (.float 7 (.float 8 (.float 9 (.float 10 (.float 11 (.float 12 (.float 13 (.float 14 (.float 15 (.float 16 (.tail 17)))))))))))))))))) (by kernel_rfl) (by kernel_rfl) (Ext.refl _).drew ?_
          iterate 7 ((refine Plan.float_step (v := ?_) rfl (by rfl) (fun _ _ _ h => h) (fun w' hSw => ?_) ?_; rotate_left; · (go_simp; try with_reducible rfl)); (try simp only [Act.put, List.setIfInBounds_toArray, List.set_cons_zero, List.set_cons_succ]))
          iterate 10 ((first | (refine Plan.float_step (v := ?_) rfl (by rfl) (fun _ _ _ h => h) (fun w' hSw => ?_) ?_; rotate_left; · (go_simp; try with_reducible rfl)) | (refine planNo rfl (by rfl) (fun _ _ _ h => h) ?_)); (try simp only [Act.put, List.setIfInBounds_toArray, List.set_cons_zero, List.set_cons_succ]))
          refine Plan.tail_step ?_
          simp only [List.drop_succ_cons, List.drop_zero]
          clear hS
          go_wp2
          go_ret
          exact ⟨by rw [HN.out]; rfl, he.trans Ext.auto⟩
      · 
        have q0 : decide ((m.length : Int) ≤ (P : Int) + (k : Int)) = true := by simp; omega
        have HN := hide (there_end hlt (show m.length ≤ P + k by omega))
        go_upto_region 4 with fail
        have hS : ∀ w', Ext w1 w' → ∀ bb oo, bb < w1.heap.size → w'.cell? ⟨bb, oo, none⟩ = w1.cell? ⟨bb, oo, none⟩ := fun w' hx bb oo hb => hx.cell hb
        refine wp_region_plan (fun w' => Ext w1 w') 17 (.float 0 (.float 1 (.float 2 (.float 3 (.float 4 (.float 5 (.float 6 (.float 7 (.float 8 (.float 9 (.float 10 (.float 11 (.float 12 (.float 13 (.float 14 (.float 15 (.float 16 (.tail 17)))))))))))))))))) (by kernel_rfl) (by kernel_rfl) (Ext.refl _).drew ?_
        iterate 7 ((refine Plan.float_step (v := ?_) rfl (by rfl) (fun _ _ _ h => h) (fun w' hSw => ?_) ?_; rotate_left; · (go_simp; try with_reducible rfl)); (try simp only [Act.put, List.setIfInBounds_toArray, List.set_cons_zero, List.set_cons_succ]))
        iterate 10 ((first | (refine Plan.float_step (v := ?_) rfl (by rfl) (fun _ _ _ h => h) (fun w' hSw => ?_) ?_; rotate_left; · (go_simp; try with_reducible rfl)) | (refine planNo rfl (by rfl) (fun _ _ _ h => h) ?_)); (try simp only [Act.put, List.setIfInBounds_toArray, List.set_cons_zero, List.set_cons_succ]))
        refine Plan.tail_step ?_
        simp only [List.drop_succ_cons, List.drop_zero]
        clear hS
        go_wp2
        go_ret
        exact ⟨by rw [HN.out]; rfl, he.trans Ext.auto⟩
    · 
      obtain rfl : k = a.length := by omega
      have HN := hide (there_all HT.out)
      go_wp2
      go_ret
      exact ⟨by rw [HN.out]; rfl, he⟩

end Go.Proofs.Ytjemadbhpbbhlaa
