/-
  MapLib
-/
import Derived.Test.YteaacelfnkiboaaYLib
import Derived.Carry
namespace Go.Proofs.Yteaacelfnkiboaa
open Go.RowKit
set_option linter.unusedVariables false
set_option linter.unusedSimpArgs false

/-- A block is a map that holds these, laid in this order. -/
def MapIs (w : World) (m : Nat) (L : List (Int × Bool)) : Prop :=
  ∃ es clk, w.heap[m]? = some (.map es clk) ∧ es.toList.map (fun e => (e.key, e.val)) = L.map (fun p => (Value.int .i64 p.1, Value.bool p.2))
theorem MapIs.new (w : World) : MapIs (w.alloc (.map #[] 0)) w.heap.size [] := ⟨#[], 0, by show (w.heap.push _)[w.heap.size]? = _; simp, rfl⟩
theorem findNow_of (k : Int) : ∀ (es : List MapEntry) (L : List (Int × Bool)) (i : Nat), es.map (fun e => (e.key, e.val)) = L.map (fun p => (Value.int .i64 p.1, Value.bool p.2)) →
    ∃ j, Instr.findNow (.int .i64) (.int .i64 k) es i = some ((L.find? (fun p => k == p.1)).map fun p => (j, .bool p.2))
  | [], [], i, _ => ⟨0, rfl⟩
  | [], p :: L, i, h => by simp at h
  | e :: es, [], i, h => by simp at h
  | e :: es, p :: L, i, h => by
    simp only [List.map_cons, List.cons.injEq, Prod.mk.injEq] at h
    obtain ⟨⟨h1, h2⟩, h3⟩ := h
    unfold Instr.findNow
    rw [h1, h2]
    by_cases hk : k = p.1
    · subst hk
      exact ⟨i, by simp [Instr.sameNow]⟩
    · obtain ⟨j, hj⟩ := findNow_of k es L (i + 1) h3
      refine ⟨j, ?_⟩
      have hf : (k == p.1) = false := by simpa using hk
      simp [Instr.sameNow, hf, hj, List.find?_cons]
theorem checkKey_int {P : Program} {kt : TypeId} (hk : P.underlying kt = some (.int .i64)) (b : Bool) (n : Nat) (k : Int) (w : World) : (Instr.checkKey b (n + 1) kt (.int .i64 k)).run P w = .ok () w := by
  unfold Instr.checkKey
  rw [Sem.run_bind, run_underlying hk]
  rfl
theorem run_findKey_of {P : Program} {kt : TypeId} (hk : P.underlying kt = some (.int .i64)) (k : Int) (es : List MapEntry) (w : World) {r : Option (Nat × Value)} (h : Instr.findNow (.int .i64) (.int .i64 k) es 0 = some r) :
    (Instr.findKey kt (.int .i64 k) es).run P w = .ok r w := by
  unfold Instr.findKey
  rw [Sem.run_bind, run_underlying hk]
  simp only [Result.andThen_ok, h]
  rfl
theorem run_insert_new {P : Program} {mt kt et : TypeId} (hm : P.underlying mt = some (.map kt et)) (hk : P.underlying kt = some (.int .i64)) {w : World} {m : Nat} {L : List (Int × Bool)} (h : MapIs w m L) (k : Int) (b : Bool)
    (hn : L.find? (fun p => k == p.1) = none) :
    ∃ w', (Instr.mapUpdate mt (.map (some m)) (.int .i64 k) (.bool b)).run P w = .ok () w' ∧ MapIs w' m (L ++ [(k, b)]) ∧ w'.heap.size = w.heap.size ∧ (∀ j, j ≠ m → w'.heap[j]? = w.heap[j]?) ∧ w'.os = w.os ∧ w'.tape = w.tape ∧ w'.output = w.output := by
  obtain ⟨es, clk, h1, h2⟩ := h
  obtain ⟨j, hj⟩ := findNow_of k es.toList L 0 h2
  rw [hn] at hj
  have hml : m < w.heap.size := (Array.getElem?_eq_some_iff.1 h1).1
  refine ⟨{ w with heap := w.heap.setIfInBounds m (.map (es.push { key := .int .i64 k, val := .bool b, born := clk }) (clk + 1)) }, ?_, ⟨es.push { key := .int .i64 k, val := .bool b, born := clk }, clk + 1, by simp [hml], by simp [h2]⟩, by simp, fun i hi => by simp [Array.getElem?_setIfInBounds, Ne.symm hi], rfl, rfl, rfl⟩
  unfold Instr.mapUpdate
  rw [Sem.run_bind, run_underlying hm]
  simp only [Result.andThen_ok]
  rw [Sem.run_bind]
  have hg : (getObj m).run P w = .ok (.map es clk) w := by
    unfold getObj
    simp [Sem.run, h1]
  rw [hg]
  simp only [Result.andThen_ok]
  rw [Sem.run_bind, checkKey_int hk]
  simp only [Result.andThen_ok]
  rw [Sem.run_bind, run_findKey_of hk k es.toList w hj]
  simp only [Result.andThen_ok, Option.map_none]
  unfold setObj
  simp [Sem.run, h1]
theorem run_lookup_in {P : Program} {mt kt et : TypeId} (hm : P.underlying mt = some (.map kt et)) (hk : P.underlying kt = some (.int .i64)) (hz : ∀ w, (zeroValue et).run P w = .ok (.bool false) w) {w : World} {m : Nat} {L : List (Int × Bool)} (h : MapIs w m L) (k : Int) :
    (Instr.lookup mt (.map (some m)) (.int .i64 k) false).run P w = .ok (.bool (((L.find? (fun p => k == p.1)).map Prod.snd).getD false)) w := by
  obtain ⟨es, clk, h1, h2⟩ := h
  obtain ⟨j, hj⟩ := findNow_of k es.toList L 0 h2
  unfold Instr.lookup
  rw [Sem.run_bind, run_underlying hm]
  simp only [Result.andThen_ok]
  rw [Sem.run_bind]
  have hg : (getObj m).run P w = .ok (.map es clk) w := by
    unfold getObj
    simp [Sem.run, h1]
  simp only [Sem.run_bind, hg, Result.andThen_ok, Sem.run_pure, checkKey_int hk, run_findKey_of hk k es.toList w hj]
  cases hf : L.find? (fun p => k == p.1) with
  | none => simp [hz, Sem.run_bind]
  | some p => simp [Sem.run_bind]
theorem wp_insert_new {P : Program} {o : Oper} {a : Act} {K : Act → World → Prop} {Q : Exit → Act → World → Prop} {mt kt et : TypeId} (x y z : Operand) (ho : o.op = .insert mt x y z)
    (hm : P.underlying mt = some (.map kt et)) (hk : P.underlying kt = some (.int .i64)) {w0 w : World} {m : Nat} {L : List (Int × Bool)} (h : MapIs w m L) (hx0 : Ext w0 w) (hm0 : w0.heap.size ≤ m) (k : Int) (b : Bool)
    (hx : a.eval x = .map (some m)) (hy : a.eval y = .int .i64 k) (hz : a.eval z = .bool b) (hn : L.find? (fun p => k == p.1) = none)
    (hK : ∀ w', MapIs w' m (L ++ [(k, b)]) → Ext w0 w' → K (a.put o.dst undef) w') : o.wp P a w K Q := by
  obtain ⟨w', hr, h1, h2, h3, h4, h5, h6⟩ := run_insert_new hm hk h k b hn
  unfold Oper.wp execOp
  simp only [ho, hx, hy, hz, Sem.run_bind, hr, Result.andThen_ok, Sem.run_pure]
  exact hK w' h1 ⟨⟨h4.trans hx0.below.os, h5.trans hx0.below.tape, h6.trans hx0.below.output, by rw [h2]; exact hx0.size, fun j hj => (h3 j (by omega)).trans (hx0.heap hj)⟩⟩
theorem wpList_lookup_in {P : Program} {ops : Array Oper} {rest : List Oper} {o : Oper} {a : Act} {Q : Exit → Act → World → Prop} (hgd : o.guard = none) {mt kt et : TypeId} (x y : Operand) (ho : o.op = .lookup mt x y false)
    (hm : P.underlying mt = some (.map kt et)) (hk : P.underlying kt = some (.int .i64)) (hz : ∀ w, (zeroValue et).run P w = .ok (.bool false) w) {w : World} {m : Nat} {L : List (Int × Bool)} (h : MapIs w m L) (k : Int) (r : Bool)
    (hx : a.eval x = .map (some m)) (hy : a.eval y = .int .i64 k) (hr : (((L.find? (fun p => k == p.1)).map Prod.snd).getD false) = r)
    (hK : wpList P ops Q rest (a.put o.dst (.bool r)) w) : wpList P ops Q (o :: rest) a w := by
  refine wpList_plain hgd fun K hK' => ?_
  have hrun := run_lookup_in hm hk hz h k
  rw [hr] at hrun
  unfold Oper.wp execOp
  simp only [ho, hx, hy, Sem.run_bind, hrun, Result.andThen_ok, Sem.run_pure]
  exact hK' _ _ hK
/-- So many inserts are still to come. -/
def InsRel (w0 : World) (m : Nat) (kf : Int → Bool) (key : Nat → Int) (J0 : List Nat) (J : List Nat) (w : World) : Prop :=
  J.Nodup ∧ (∀ i, i ∈ J → i ∈ J0) ∧ ∃ L, MapIs w m L ∧ Ext w0 w ∧ (∀ p, p ∈ L → p.2 = kf p.1) ∧ (∀ p, p ∈ L → ∀ i, i ∈ J → p.1 ≠ key i) ∧ (∀ i, i ∈ J0 → i ∉ J → key i ∈ L.map Prod.fst)
theorem InsRel.start {w0 w : World} {m : Nat} {kf : Int → Bool} {key : Nat → Int} {J0 : List Nat} (hd : J0.Nodup) (h : MapIs w m []) (hx : Ext w0 w) : InsRel w0 m kf key J0 J0 w :=
  ⟨hd, fun _ h => h, [], h, hx, fun p hp => by simp at hp, fun p hp => by simp at hp, fun i h1 h2 => absurd h1 h2⟩
theorem wp_insR {P : Program} {o : Oper} {a : Act} {K : Act → World → Prop} {Q : Exit → Act → World → Prop} {mt kt et : TypeId} (x y z : Operand) (ho : o.op = .insert mt x y z) (hd : o.dst = none)
    (hm : P.underlying mt = some (.map kt et)) (hk : P.underlying kt = some (.int .i64)) {w0 w : World} {m : Nat} {kf : Int → Bool} {key : Nat → Int} {J0 J : List Nat} (hm0 : w0.heap.size ≤ m) (h : InsRel w0 m kf key J0 J w) {i : Nat} (hi : i ∈ J)
    (hinj : ∀ i j, i ∈ J0 → j ∈ J0 → key i = key j → i = j) (hx : a.eval x = .map (some m)) (hy : a.eval y = .int .i64 (key i)) (hz : a.eval z = .bool (kf (key i)))
    (hK : ∀ w', InsRel w0 m kf key J0 (J.erase i) w' → K a w') : o.wp P a w K Q := by
  obtain ⟨h1, h2, L, h3, h4, h5, h6, h7⟩ := h
  refine wp_insert_new x y z ho hm hk h3 h4 hm0 (key i) (kf (key i)) hx hy hz ?_ fun w' hM hE => ?_
  · rw [List.find?_eq_none]
    intro p hp
    have := h6 p hp i hi
    exact fun e => this (eq_of_beq e).symm
  · rw [hd]
    refine hK w' ⟨h1.erase i, fun j hj => h2 j (List.mem_of_mem_erase hj), _, hM, hE, fun p hp => ?_, fun p hp j hj => ?_, fun j hj hn => ?_⟩
    · rcases List.mem_append.1 hp with hp | hp
      · exact h5 p hp
      · simp at hp; subst hp; rfl
    · have hj' := (h1.mem_erase_iff).1 hj
      rcases List.mem_append.1 hp with hp | hp
      · exact h6 p hp j hj'.2
      · simp at hp; subst hp
        intro e
        exact hj'.1 (hinj i j (h2 i hi) (h2 j hj'.2) e).symm
    · by_cases e : j = i
      · subst e; simp
      · rw [List.map_append]
        refine List.mem_append_left _ (h7 j hj fun hm => hn (h1.mem_erase_iff.2 ⟨e, hm⟩))
theorem InsRel.out {w0 w : World} {m : Nat} {kf : Int → Bool} {key : Nat → Int} {J0 : List Nat} (h : InsRel w0 m kf key J0 [] w) : ∃ L, MapIs w m L ∧ Ext w0 w ∧ (∀ p, p ∈ L → p.2 = kf p.1) ∧ (∀ i, i ∈ J0 → key i ∈ L.map Prod.fst) := by
  obtain ⟨_, _, L, h3, h4, h5, _, h7⟩ := h
  exact ⟨L, h3, h4, h5, fun i hi => h7 i hi (by simp)⟩

end Go.Proofs.Yteaacelfnkiboaa
