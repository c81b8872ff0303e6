/-
 RegLib, Reg2Lib
-/
import Derived.Test.YtmbclopkopfngaaGreatJLib
import Derived.Deep.RegionHeld
import Derived.StillTail
namespace Go.Proofs.YtmbclopkopfngaaGreat
open Go.RowKit
set_option linter.unusedVariables false
set_option linter.unusedSimpArgs false
section
variable {P : Program} {ops : Array Oper} {Q : Exit → Act → World → Prop} {md : Region.Mode} {S : World → Prop} {N : Nat → Bool}
def av3 (P : Program) (md : Region.Mode) (ops : Array Oper) (Q : Exit → Act → World → Prop) (S : World → Prop) (N : Nat → Bool) : Nat → Array Bool → Act → World → Prop
 | 0, listed, a, w => Region.ready md ops listed = [] ∧ Q .normal a w
 | fuel + 1, listed, a, w =>
  (Region.ready md ops listed = [] → Q .normal a w) ∧
  ∀ i ∈ Region.ready md ops listed, wpOp P ops Q i (fun a' w' => (N i = true → S w') ∧ av3 P md ops Q S N fuel (listed.setIfInBounds i true) a' w') a w
theorem aC3 : ∀ (fuel : Nat) (listed : Array Bool) (a : Act) (w : World), av3 P md ops Q S N fuel listed a w → wpAny P md ops Q fuel listed a w
 | 0, _, _, _, h => h
 | fuel + 1, _, _, _, h => ⟨h.1, fun i hi => wpOp_mono (fun a' w' h' => aC3 fuel _ a' w' h'.2) (h.2 i hi)⟩
theorem av4 : ∀ (fuel : Nat) (listed : Array Bool) (a : Act) (w : World), (∀ j, listed.getD j true = false → N j = false) → wpAny P md ops Q fuel listed a w → av3 P md ops Q S N fuel listed a w
 | 0, _, _, _, _, h => h
 | fuel + 1, listed, _, _, hN, h => ⟨h.1, fun i hi => wpOp_mono (fun a' w' h' => ⟨fun hn => (by rw [hN i (mem_ready.1 hi).1] at hn; cases hn), av4 fuel _ a' w' (fun j hj => by
   by_cases e : i = j
   ·subst e; exact hN i (mem_ready.1 hi).1
   ·rw [getD_set_ne true e] at hj; exact hN j hj) h'⟩) (h.2 i hi)⟩
def aC4 (md : Region.Mode) (ops : Array Oper) (listed : Array Bool) : Prop :=
 ∀ j oj, ops[j]? = some oj → listed.getD j false = true → ∀ e ∈ oj.after, Region.binds md e = true → listed.getD e.on false = true
theorem aC4.start (n : Nat) : aC4 md ops (Array.replicate n false) := fun j oj _ hl => (by rw [getD_replicate_false] at hl; cases hl)
theorem aC4.set {listed : Array Bool} {i : Nat} (h : aC4 md ops listed) (hi : i ∈ Region.ready md ops listed) : aC4 md ops (listed.setIfInBounds i true) := by
 obtain ⟨_, oi, hoi, hall⟩ := mem_ready.1 hi;intro j oj hj hl e he hb;by_cases hij : i = j
 ·subst hij
  have : oj = oi := Option.some.inj (hj.symm.trans hoi);subst this;exact getD_set_true (hall e he hb)
 ·rw [getD_set_ne false hij] at hl
  exact getD_set_true (h j oj hj hl e he hb)
def aV5 (md : Region.Mode) (ops : Array Oper) (i : Nat) : Nat → Nat → Bool
 | 0, _ => false
 | f + 1, j => match ops[j]? with
  | some oj => oj.after.any fun e => Region.binds md e && (decide (e.on = i) || aV5 md ops i f e.on)
  | none => false
theorem aN2 {listed : Array Bool} {i : Nat} (hs : aC4 md ops listed) : ∀ (f j : Nat) (oj : Oper), ops[j]? = some oj → (∀ e ∈ oj.after, Region.binds md e = true → listed.getD e.on false = true) → aV5 md ops i f j = true → listed.getD i false = true
 | 0, _, _, _, _, h => by simp [aV5] at h
 | f + 1, j, oj, hj, hall, h => by
  simp only [aV5, hj] at h;obtain ⟨e, he, hb⟩ := Array.any_eq_true'.1 h;simp only [Bool.and_eq_true, Bool.or_eq_true, decide_eq_true_eq] at hb;have hl := hall e he hb.1;rcases hb.2 with h1 | h1
  ·rw [h1] at hl; exact hl
  ·cases ho : ops[e.on]? with
   | none => cases f <;> simp [aV5, ho] at h1
   | some oe => exact aN2 hs f e.on oe ho (hs e.on oe ho hl) h1
theorem bv7 {i : Nat} {oi : Oper} {v : Value} (hi : ops[i]? = some oi) (hsel : ∀ (j : Nat) (o : Oper) cs b, ops[j]? = some o → o.op ≠ .select cs b)
  (hQ : ∀ c a w, Q (.panic c) (a.put oi.dst v) w → Q (.panic c) a w) :
  ∀ (fuel : Nat) (listed : Array Bool) (a : Act) (w : World), aC4 md ops listed →
   (∀ j oj, ops[j]? = some oj → j ≠ i → listed.getD j true = false → (∀ e ∈ oj.after, Region.binds md e = true → e.on ≠ i) → oi.apart ops oj = true) →
   (∀ j oj, ops[j]? = some oj → j ≠ i → listed.getD j true = false → aV5 md ops i ops.size j = false → N j = true) →
   i ∈ Region.ready md ops listed → YieldsIf P ops S oi v a → S w →
   av3 P md ops Q S N fuel (listed.setIfInBounds i true) (a.put oi.dst v) w → av3 P md ops Q S N (fuel + 1) listed a w := by
 intro fuel
 induction fuel with
 | zero =>
  intro listed a w _ _ _ hr hy hS H;refine ⟨fun h => (by rw [h] at hr; cases hr), fun j hj => ?_⟩;by_cases hji : j = i
  ·subst hji; exact hy.wpOp hi hS ⟨fun _ => hS, H⟩
  ·have := ready_mono hj hji
   rw [H.1] at this;cases this
 | succ fuel ih =>
  intro listed a w hsh hfree bD6 hr hy hS H;refine ⟨fun h => (by rw [h] at hr; cases hr), fun j hj => ?_⟩;by_cases hji : j = i
  ·subst hji; exact hy.wpOp hi hS ⟨fun _ => hS, H⟩
  ·have h1 := H.2 j (ready_mono hj hji)
   obtain ⟨hjun, oj, hoj, hall⟩ := mem_ready.1 hj
   have hnot : ∀ e ∈ oj.after, Region.binds md e = true → e.on ≠ i := fun e he hb heq => by
    have h1 := hall e he hb;have h0 := (mem_ready.1 hr).1;rw [heq] at h1;rcases Nat.lt_or_ge i listed.size with h' | h'
    ·simp [h'] at h0 h1; rw [h0] at h1; cases h1
    ·simp [Array.getElem?_eq_none h'] at h1
   have hNj : N j = true := by
    refine bD6 j oj hoj hji hjun ?_;cases hA : aV5 md ops i ops.size j with
    | false => rfl
    | true =>
     have h0 := (mem_ready.1 hr).1;have h3 := aN2 hsh _ j oj hoj hall hA;rw [getD_both h0] at h3;cases h3
   have h2 := wpOp_putIf hoj (hfree j oj hoj hji hjun hnot) (fun cs b => hsel i oi cs b hi) (fun cs b => hsel j oj cs b hoj) hQ hy h1
   have hfree' : ∀ k ok, ops[k]? = some ok → k ≠ i → (listed.setIfInBounds j true).getD k true = false →
     (∀ e ∈ ok.after, Region.binds md e = true → e.on ≠ i) → oi.apart ops ok = true := fun k ok hk hki hun hno => by
    refine hfree k ok hk hki ?_ hno;by_cases hjk : j = k
    ·subst hjk; exact hjun
    ·rw [getD_set_ne true hjk] at hun; exact hun
   have bK2 : ∀ k ok, ops[k]? = some ok → k ≠ i → (listed.setIfInBounds j true).getD k true = false → aV5 md ops i ops.size k = false → N k = true := fun k ok hk hki hun hno => by
    refine bD6 k ok hk hki ?_ hno;by_cases hjk : j = k
    ·subst hjk; exact hjun
    ·rw [getD_set_ne true hjk] at hun; exact hun
   refine wpOp_mono (fun a' w' h3 => ⟨h3.2.1, ih (listed.setIfInBounds j true) a' w' (hsh.set hj) hfree' bK2 (ready_mono hr (Ne.symm hji)) h3.1 (h3.2.1 hNj) ?_⟩) h2;rw [Array.setIfInBounds_comm _ _ hji];exact h3.2.2
inductive Plan where
 | float (i : Nat) (r : Plan)
 | chain (i : Nat) (r : Plan)
 | fork (i j : Nat) (r s : Plan)
 | tail (n : Nat)
def Plan.fuel (size : Nat) : Plan → Nat
 | .float _ r | .chain _ r => r.fuel size + 1
 | .fork _ _ r s => r.fuel size + 1
 | .tail n => size - n
def cf2 (md : Region.Mode) (ops : Array Oper) (n : Nat) (listed : Array Bool) (i : Nat) : Bool :=
 (List.range ops.size).all fun j => decide (j = i) || listed.getD j true || aV5 md ops i ops.size j || decide (j < n)
def Plan.ok (md : Region.Mode) (ops : Array Oper) (n : Nat) : Plan → Array Bool → Bool
 | .float i r, listed => (Region.ready md ops listed).contains i && Region.free md ops listed i && cf2 md ops n listed i && r.ok md ops n (listed.setIfInBounds i true)
 | .chain i r, listed => decide (Region.ready md ops listed = [i]) && decide (i < n) && r.ok md ops n (listed.setIfInBounds i true)
 | .fork i j r s, listed => decide (Region.ready md ops listed = [i, j]) && decide (i < n) && decide (j < n) && decide (r.fuel ops.size = s.fuel ops.size) &&
   r.ok md ops n (listed.setIfInBounds i true) && s.ok md ops n (listed.setIfInBounds j true)
 | .tail m, listed => decide (m = n) && Region.seqB md ops (ops.size - n) n listed && (List.range n).all (fun j => listed.getD j true)
def Plan.wp (P : Program) (ops : List Oper) (Q : Exit → Act → World → Prop) (S : World → Prop) (n : Nat) : Plan → Act → World → Prop
 | .float i r, a, w => ∃ o v, ops[i]? = some o ∧ YieldsIf P ops.toArray S o v a ∧ (∀ c a w, Q (.panic c) (a.put o.dst v) w → Q (.panic c) a w) ∧ r.wp P ops Q S n (a.put o.dst v) w
 | .chain i r, a, w => wpOp P ops.toArray Q i (fun a' w' => S w' ∧ r.wp P ops Q S n a' w') a w
 | .fork i j r s, a, w => wpOp P ops.toArray Q i (fun a' w' => S w' ∧ r.wp P ops Q S n a' w') a w ∧ wpOp P ops.toArray Q j (fun a' w' => S w' ∧ s.wp P ops Q S n a' w') a w
 | .tail m, a, w => wpList P ops.toArray Q (ops.drop m) a w
theorem bm4 {n i : Nat} {listed : Array Bool} (h : cf2 md ops n listed i = true) (j : Nat) (oj : Oper) (hj : ops[j]? = some oj) (hne : j ≠ i) (hl : listed.getD j true = false)
  (hno : aV5 md ops i ops.size j = false) : decide (j < n) = true := by
 have hjs : j < ops.size := (Array.getElem?_eq_some_iff.1 hj).1;have := List.all_eq_true.1 h j (List.mem_range.2 hjs);rw [decide_eq_false hne, hl] at this
 simpa [hno] using this
theorem Plan.any {ops : List Oper} {n : Nat} (hs : Region.noSelect ops.toArray = true) : ∀ (p : Plan) (listed : Array Bool) (a : Act) (w : World), p.ok md ops.toArray n listed = true → aC4 md ops.toArray listed → S w →
  p.wp P ops Q S n a w → av3 P md ops.toArray Q S (fun j => decide (j < n)) (p.fuel ops.toArray.size) listed a w
 | .float i r, listed, a, w, hB, hsh, hS, h => by
  simp only [Plan.ok, Bool.and_eq_true] at hB;obtain ⟨⟨⟨hr, hf⟩, hl⟩, hB'⟩ := hB;obtain ⟨o, v, ho, hy, hQ, h'⟩ := h;have ho' : ops.toArray[i]? = some o := (by simpa using ho);have hr' : i ∈ Region.ready md ops.toArray listed := (by simpa using hr)
  exact bv7 ho' (Region.noSelect_spec hs) hQ _ listed a w hsh (Region.free_spec ho' hf) (bm4 hl) hr' hy hS
   (Plan.any hs r _ _ _ hB' (hsh.set hr') hS h')
 | .chain i r, listed, a, w, hB, hsh, hS, h => by
  simp only [Plan.ok, Bool.and_eq_true, decide_eq_true_eq] at hB;obtain ⟨⟨hr, hn⟩, hB'⟩ := hB;refine ⟨fun h0 => (by rw [hr] at h0; cases h0), fun j hj => ?_⟩;rw [hr] at hj;obtain rfl : j = i := (by simpa using hj);exact wpOp_mono (fun a' w' h' => ⟨fun _ => h'.1, Plan.any hs r _ _ _ hB' (hsh.set (by rw [hr]; simp)) h'.1 h'.2⟩) h
 | .fork i j r s, listed, a, w, hB, hsh, hS, h => by
  simp only [Plan.ok, Bool.and_eq_true, decide_eq_true_eq] at hB;obtain ⟨⟨⟨⟨⟨hr, hn⟩, hm⟩, hfu⟩, hB1⟩, hB2⟩ := hB;refine ⟨fun h0 => (by rw [hr] at h0; cases h0), fun k hk => ?_⟩;rw [hr] at hk;simp only [List.mem_cons, List.not_mem_nil, or_false] at hk;rcases hk with rfl | rfl
  ·exact wpOp_mono (fun a' w' h' => ⟨fun _ => h'.1, Plan.any hs r _ _ _ hB1 (hsh.set (by rw [hr]; simp)) h'.1 h'.2⟩) h.1
  ·exact wpOp_mono (fun a' w' h' => ⟨fun _ => h'.1, by have := Plan.any hs s _ _ _ hB2 (hsh.set (by rw [hr]; simp)) h'.1 h'.2; rw [← hfu] at this; exact this⟩) h.2
 | .tail m, listed, a, w, hB, hsh, hS, h => by
  simp only [Plan.ok, Bool.and_eq_true, decide_eq_true_eq] at hB;obtain ⟨⟨rfl, hq⟩, hl⟩ := hB;have hdl : (ops.drop m).length = ops.toArray.size - m := (by simp);have h1 := wpAny_of_seq (md := md) (Q' := Q) (ops.drop m) m listed a w (fun j => by simp [List.getElem?_drop]) (by rw [hdl]; exact hq) h;rw [hdl] at h1;refine av4 _ _ _ _ (fun j hj => ?_) h1;rw [decide_eq_false_iff_not];intro hlt;have := List.all_eq_true.1 hl j (List.mem_range.2 hlt);rw [hj] at this;cases this
theorem l8 {ops : List Oper} (S : World → Prop) (n : Nat) (p : Plan) {id : Nat} {a : Act} {w : World} (hm : P.follows .mixedOrders = true)
  (hB : (Region.noSelect ops.toArray && p.ok .any ops.toArray n (Array.replicate ops.toArray.size false) && decide (p.fuel ops.toArray.size = ops.toArray.size)) = true) (hS : S w.drew)
  (h : p.wp P ops Q S n a w.drew) : (Code.region id ops.toArray true).wp P Q a w := by
 simp only [Bool.and_eq_true, decide_eq_true_eq] at hB;obtain ⟨⟨hs, hok⟩, hf⟩ := hB;refine wp_region_any hm (aC3 (S := S) (N := fun j => decide (j < n)) _ _ _ _ ?_);have := Plan.any (md := .any) hs p _ a w.drew hok (aC4.start _) hS h;rw [hf] at this;exact this
theorem Plan.j6 {ops : List Oper} {n i : Nat} {r : Plan} {o : Oper} {v : Value} {a : Act} {w : World} (ho : ops[i]? = some o) (hw : Region.wanted o (yielded ops.toArray a.tmps) = true)
  (hQ : ∀ c a w, Q (.panic c) (a.put o.dst v) w → Q (.panic c) a w)
  (hy : ∀ w, S w → (execOp a.eval o).run P w = .ok (.value v) w) (h : r.wp P ops Q S n (a.put o.dst v) w) : (Plan.float i r).wp P ops Q S n a w :=
 ⟨o, v, ho, .inl ⟨hw, hy⟩, hQ, h⟩
theorem Plan.G7 {ops : List Oper} {n i : Nat} {r : Plan} {o : Oper} {a : Act} {w : World} (ho : ops[i]? = some o)
  (h : ∀ K' : Act → World → Prop, Shut (∀ a w, S w → r.wp P ops Q S n a w → K' a w) → if Region.wanted o (yielded ops.toArray a.tmps) = true then Oper.wp P o a w K' Q else K' (a.put o.dst undef) w) :
  (Plan.chain i r).wp P ops Q S n a w :=
 wpOp_step (by simpa using ho) (fun K' hK => h K' (fun a w hS hW => hK a w ⟨hS, hW⟩))
theorem Plan.aU4 {ops : List Oper} {n i j : Nat} {r s : Plan} {a : Act} {w : World} (h1 : (Plan.chain i r).wp P ops Q S n a w) (h2 : (Plan.chain j s).wp P ops Q S n a w) : (Plan.fork i j r s).wp P ops Q S n a w := ⟨h1, h2⟩
theorem Plan.F8 {ops : List Oper} {n : Nat} {a : Act} {w : World} (h : wpList P ops.toArray Q (ops.drop n) a w) : (Plan.tail n).wp P ops Q S n a w := h
end
section
variable {P : Program} {ops : Array Oper} {Q : Exit → Act → World → Prop} {md : Region.Mode} {S : World → Prop} {N : Nat → Bool}
def af9 (P : Program) (ops : Array Oper) (S : World → Prop) (o : Oper) (v : Value) (a : Act) : Prop :=
 (Region.wanted o (yielded ops a.tmps) = true ∧ ∀ w, S w → o.quietAt P a (fun w' => w' = w) w v) ∨
 (Region.wanted o (yielded ops a.tmps) = false ∧ v = undef)
theorem af9.wpOp {i : Nat} {o : Oper} {v : Value} {a : Act} (hi : ops[i]? = some o) (hy : af9 P ops S o v a)
  {K : Act → World → Prop} {w : World} (hS : S w) (h : K (a.put o.dst v) w) : wpOp P ops Q i K a w := by
 unfold Go.wpOp;simp only [hi];rcases hy with ⟨hw, hv⟩ | ⟨hw, rfl⟩
 ·simp only [hw, if_true]
  refine .inl ?_;have h3 := hv w hS;unfold Oper.quietAt at h3;unfold Oper.wp;generalize (execOp a.eval o).run P w = r at *;cases r with
  | ok n w' =>
   cases n <;> simp only [Oper.quietUpon] at h3 <;> simp only [Oper.upon]
   case value u =>
    obtain ⟨e1, e2⟩ := h3;rw [e1, e2];exact h
   case skip =>
    obtain ⟨e1, e2⟩ := h3;rw [e1, ← e2];exact h
   case enter f args =>
    obtain ⟨e1, hc⟩ := h3;rw [e1];exact hc.mono fun e w'' ⟨he, hw''⟩ => by subst he; subst hw''; exact h
  | halt x w' => simp only [Oper.quietUpon] at h3
 ·simp only [hw, Bool.false_eq_true, if_false]; exact h
theorem af9.of_same {o : Oper} {v : Value} {a a' : Act} (hy : af9 P ops S o v a) (he : execOp a'.eval o = execOp a.eval o)
  (hw : Region.wanted o (yielded ops a'.tmps) = Region.wanted o (yielded ops a.tmps)) : af9 P ops S o v a' := by
 unfold af9 Oper.quietAt at *;rw [he, hw];exact hy
theorem bU7 {j : Nat} {oi oj : Oper} {v : Value} (hj : ops[j]? = some oj) (hap : oi.apart ops oj = true)
  (hsi : ∀ cs b, oi.op ≠ .select cs b) (hsj : ∀ cs b, oj.op ≠ .select cs b)
  (hQ : ∀ c a w, Q (.panic c) (a.put oi.dst v) w → Q (.panic c) a w) {K : Act → World → Prop} {a : Act} {w : World}
  (hy : af9 P ops S oi v a) (h : wpOp P ops Q j K (a.put oi.dst v) w) :
  wpOp P ops Q j (fun a' w' => af9 P ops S oi v a' ∧ K (a'.put oi.dst v) w') a w := by
 obtain ⟨h1, h2, h3⟩ := Oper.apart_spec hap
 have keep : ∀ (a : Act), af9 P ops S oi v a → ∀ u, af9 P ops S oi v (a.put oj.dst u) := fun a hy u =>
  hy.of_same (execOp_put oi hsi a oj.dst u h3) (wanted_put oi a oj.dst u h3)
 have keepD : ∀ d, af9 P ops S oi v { a with defers := d :: a.defers } := fun d => hy.of_same rfl rfl;unfold wpOp at *;simp only [hj] at *;rw [wanted_put oj a oi.dst v h1] at h;split
 ·rename_i hw
  simp only [hw, if_true] at h;rcases h with h | ⟨hasks, hlets⟩;case inr => exact .inr ⟨by unfold Oper.asks at *; rw [execOp_put oj hsj a oi.dst v h1] at hasks; exact hasks, hlets⟩
  refine .inl ?_;unfold Oper.wp at *;rw [execOp_put oj hsj a oi.dst v h1] at h;generalize (execOp a.eval oj).run P w = r at *;cases r with
  | ok n w' =>
   cases n <;> simp only [Oper.upon] at h ⊢;case value u => exact ⟨keep a hy u, by rw [← Act.put_comm a v u h2]; exact h⟩
   case skip => exact ⟨keep a hy _, by rw [← Act.put_comm a v undef h2]; exact h⟩
   case defer d =>
    refine ⟨keep _ (keepD d) _, ?_⟩;rw [← Act.put_comm _ v undef h2, ← Act.put_defers];exact h
   case enter f args =>
    refine Calls.mono h fun e w'' he => ?_;cases e with
    | returned u => exact ⟨keep a hy u, by rw [← Act.put_comm a v u h2]; exact he⟩
    | panicked c => exact hQ _ _ _ he
    | outgrown => exact he
   case row row args => exact Rows.mono h fun u w'' he => ⟨keep a hy u, by rw [← Act.put_comm a v u h2]; exact he⟩
  | halt x w' =>
   cases x <;> simp only [Oper.upon] at h ⊢;case panic u => exact hQ _ _ _ h
 ·rename_i hw
  simp only [hw] at h;exact ⟨keep a hy _, by rw [← Act.put_comm a v undef h2]; exact h⟩
theorem bp8 {i : Nat} {oi : Oper} {v : Value} (hi : ops[i]? = some oi) (hsel : ∀ (j : Nat) (o : Oper) cs b, ops[j]? = some o → o.op ≠ .select cs b)
  (hQ : ∀ c a w, Q (.panic c) (a.put oi.dst v) w → Q (.panic c) a w) :
  ∀ (fuel : Nat) (listed : Array Bool) (a : Act) (w : World), aC4 md ops listed →
   (∀ j oj, ops[j]? = some oj → j ≠ i → listed.getD j true = false → (∀ e ∈ oj.after, Region.binds md e = true → e.on ≠ i) → oi.apart ops oj = true) →
   (∀ j oj, ops[j]? = some oj → j ≠ i → listed.getD j true = false → aV5 md ops i ops.size j = false → N j = true) →
   i ∈ Region.ready md ops listed → af9 P ops S oi v a → S w →
   av3 P md ops Q S N fuel (listed.setIfInBounds i true) (a.put oi.dst v) w → av3 P md ops Q S N (fuel + 1) listed a w := by
 intro fuel
 induction fuel with
 | zero =>
  intro listed a w _ _ _ hr hy hS H;refine ⟨fun h => (by rw [h] at hr; cases hr), fun j hj => ?_⟩;by_cases hji : j = i
  ·subst hji; exact hy.wpOp hi hS ⟨fun _ => hS, H⟩
  ·have := ready_mono hj hji
   rw [H.1] at this;cases this
 | succ fuel ih =>
  intro listed a w hsh hfree bD6 hr hy hS H;refine ⟨fun h => (by rw [h] at hr; cases hr), fun j hj => ?_⟩;by_cases hji : j = i
  ·subst hji; exact hy.wpOp hi hS ⟨fun _ => hS, H⟩
  ·have h1 := H.2 j (ready_mono hj hji)
   obtain ⟨hjun, oj, hoj, hall⟩ := mem_ready.1 hj
   have hnot : ∀ e ∈ oj.after, Region.binds md e = true → e.on ≠ i := fun e he hb heq => by
    have h1 := hall e he hb;have h0 := (mem_ready.1 hr).1;rw [heq] at h1;rcases Nat.lt_or_ge i listed.size with h' | h'
    ·simp [h'] at h0 h1; rw [h0] at h1; cases h1
    ·simp [Array.getElem?_eq_none h'] at h1
   have hNj : N j = true := by
    refine bD6 j oj hoj hji hjun ?_;cases hA : aV5 md ops i ops.size j with
    | false => rfl
    | true =>
     have h0 := (mem_ready.1 hr).1;have h3 := aN2 hsh _ j oj hoj hall hA;rw [getD_both h0] at h3;cases h3
   have h2 := bU7 hoj (hfree j oj hoj hji hjun hnot) (fun cs b => hsel i oi cs b hi) (fun cs b => hsel j oj cs b hoj) hQ hy h1
   have hfree' : ∀ k ok, ops[k]? = some ok → k ≠ i → (listed.setIfInBounds j true).getD k true = false →
     (∀ e ∈ ok.after, Region.binds md e = true → e.on ≠ i) → oi.apart ops ok = true := fun k ok hk hki hun hno => by
    refine hfree k ok hk hki ?_ hno;by_cases hjk : j = k
    ·subst hjk; exact hjun
    ·rw [getD_set_ne true hjk] at hun; exact hun
   have bK2 : ∀ k ok, ops[k]? = some ok → k ≠ i → (listed.setIfInBounds j true).getD k true = false → aV5 md ops i ops.size k = false → N k = true := fun k ok hk hki hun hno => by
    refine bD6 k ok hk hki ?_ hno;by_cases hjk : j = k
    ·subst hjk; exact hjun
    ·rw [getD_set_ne true hjk] at hun; exact hun
   refine wpOp_mono (fun a' w' h3 => ⟨h3.2.1, ih (listed.setIfInBounds j true) a' w' (hsh.set hj) hfree' bK2 (ready_mono hr (Ne.symm hji)) h3.1 (h3.2.1 hNj) ?_⟩) h2;rw [Array.setIfInBounds_comm _ _ hji];exact h3.2.2
inductive C1 where
 | float (i : Nat) (r : C1)
 | chain (i : Nat) (r : C1)
 | alt (i : Nat) (r s : C1)
 | stop
 | tail (n : Nat)
def C1.fuel (size : Nat) : C1 → Nat
 | .float _ r | .chain _ r => r.fuel size + 1
 | .alt _ r _ => r.fuel size + 1
 | .stop => 0
 | .tail n => size - n
def C1.alts : C1 → List Nat
 | .alt i _ s => i :: s.alts
 | _ => []
def C1.ok (md : Region.Mode) (ops : Array Oper) (n : Nat) : C1 → Option Nat → Array Bool → Bool
 | .float i r, none, listed => (Region.ready md ops listed).contains i && Region.free md ops listed i && cf2 md ops n listed i && r.ok md ops n none (listed.setIfInBounds i true)
 | .chain i r, none, listed => decide (Region.ready md ops listed = [i]) && decide (i < n) && r.ok md ops n none (listed.setIfInBounds i true)
 | .alt i r s, none, listed => decide (Region.ready md ops listed = i :: s.alts) && decide (i < n) && r.ok md ops n none (listed.setIfInBounds i true) && s.ok md ops n (some (r.fuel ops.size)) listed
 | .alt i r s, some F, listed => decide (r.fuel ops.size = F) && decide (i < n) && r.ok md ops n none (listed.setIfInBounds i true) && s.ok md ops n (some F) listed
 | .stop, some _, _ => true
 | .tail m, none, listed => decide (m = n) && Region.seqB md ops (ops.size - n) n listed && (List.range n).all (fun j => listed.getD j true)
 | _, _, _ => false
def C1.wp (P : Program) (ops : List Oper) (Q : Exit → Act → World → Prop) (S : World → Prop) (n : Nat) : C1 → Act → World → Prop
 | .float i r, a, w => ∃ o v, ops[i]? = some o ∧ af9 P ops.toArray S o v a ∧ (∀ c a w, Q (.panic c) (a.put o.dst v) w → Q (.panic c) a w) ∧ r.wp P ops Q S n (a.put o.dst v) w
 | .chain i r, a, w => wpOp P ops.toArray Q i (fun a' w' => S w' ∧ r.wp P ops Q S n a' w') a w
 | .alt i r s, a, w => wpOp P ops.toArray Q i (fun a' w' => S w' ∧ r.wp P ops Q S n a' w') a w ∧ s.wp P ops Q S n a w
 | .stop, _, _ => True
 | .tail m, a, w => wpList P ops.toArray Q (ops.drop m) a w
mutual
theorem C1.any {ops : List Oper} {n : Nat} (hs : Region.noSelect ops.toArray = true) : ∀ (p : C1) (listed : Array Bool) (a : Act) (w : World), p.ok md ops.toArray n none listed = true → aC4 md ops.toArray listed → S w →
  p.wp P ops Q S n a w → av3 P md ops.toArray Q S (fun j => decide (j < n)) (p.fuel ops.toArray.size) listed a w
 | .float i r, listed, a, w, hB, hsh, hS, h => by
  simp only [C1.ok, Bool.and_eq_true] at hB;obtain ⟨⟨⟨hr, hf⟩, hl⟩, hB'⟩ := hB;obtain ⟨o, v, ho, hy, hQ, h'⟩ := h;have ho' : ops.toArray[i]? = some o := (by simpa using ho);have hr' : i ∈ Region.ready md ops.toArray listed := (by simpa using hr)
  exact bp8 ho' (Region.noSelect_spec hs) hQ _ listed a w hsh (Region.free_spec ho' hf) (bm4 hl) hr' hy hS
   (C1.any hs r _ _ _ hB' (hsh.set hr') hS h')
 | .chain i r, listed, a, w, hB, hsh, hS, h => by
  simp only [C1.ok, Bool.and_eq_true, decide_eq_true_eq] at hB;obtain ⟨⟨hr, hn⟩, hB'⟩ := hB;refine ⟨fun h0 => (by rw [hr] at h0; cases h0), fun j hj => ?_⟩;rw [hr] at hj;obtain rfl : j = i := (by simpa using hj);exact wpOp_mono (fun a' w' h' => ⟨fun _ => h'.1, C1.any hs r _ _ _ hB' (hsh.set (by rw [hr]; simp)) h'.1 h'.2⟩) h
 | .alt i r s, listed, a, w, hB, hsh, hS, h => by
  simp only [C1.ok, Bool.and_eq_true, decide_eq_true_eq] at hB;obtain ⟨⟨⟨hr, hn⟩, hB1⟩, hB2⟩ := hB;refine ⟨fun h0 => (by rw [hr] at h0; cases h0), fun k hk => ?_⟩;have hk0 := hk;rw [hr] at hk;rcases List.mem_cons.1 hk with rfl | hk
  ·exact wpOp_mono (fun a' w' h' => ⟨fun _ => h'.1, C1.any hs r _ _ _ hB1 (hsh.set hk0) h'.1 h'.2⟩) h.1
  ·exact C1.cf3 hs s _ listed a w hB2 hsh (fun j hj => by rw [hr]; exact List.mem_cons_of_mem _ hj) h.2 k hk
 | .stop, listed, a, w, hB, hsh, hS, h => by simp [C1.ok] at hB
 | .tail m, listed, a, w, hB, hsh, hS, h => by
  simp only [C1.ok, Bool.and_eq_true, decide_eq_true_eq] at hB;obtain ⟨⟨rfl, hq⟩, hl⟩ := hB;have hdl : (ops.drop m).length = ops.toArray.size - m := (by simp);have h1 := wpAny_of_seq (md := md) (Q' := Q) (ops.drop m) m listed a w (fun j => by simp [List.getElem?_drop]) (by rw [hdl]; exact hq) h;rw [hdl] at h1;refine av4 _ _ _ _ (fun j hj => ?_) h1;rw [decide_eq_false_iff_not];intro hlt;have := List.all_eq_true.1 hl j (List.mem_range.2 hlt);rw [hj] at this;cases this
theorem C1.cf3 {ops : List Oper} {n : Nat} (hs : Region.noSelect ops.toArray = true) : ∀ (p : C1) (F : Nat) (listed : Array Bool) (a : Act) (w : World), p.ok md ops.toArray n (some F) listed = true → aC4 md ops.toArray listed →
  (∀ j, j ∈ p.alts → j ∈ Region.ready md ops.toArray listed) → p.wp P ops Q S n a w →
  ∀ j, j ∈ p.alts → wpOp P ops.toArray Q j (fun a' w' => ((fun j => decide (j < n)) j = true → S w') ∧ av3 P md ops.toArray Q S (fun j => decide (j < n)) F (listed.setIfInBounds j true) a' w') a w
 | .alt i r s, F, listed, a, w, hB, hsh, hrd, h => by
  intro j hj;simp only [C1.ok, Bool.and_eq_true, decide_eq_true_eq] at hB;obtain ⟨⟨⟨hf, hn⟩, hB1⟩, hB2⟩ := hB;rcases List.mem_cons.1 hj with rfl | hj'
  ·exact wpOp_mono (fun a' w' h' => ⟨fun _ => h'.1, by have := C1.any hs r _ _ _ hB1 (hsh.set (hrd _ hj)) h'.1 h'.2; rw [hf] at this; exact this⟩) h.1
  ·exact C1.cf3 hs s F listed a w hB2 hsh (fun k hk => hrd k (List.mem_cons_of_mem _ hk)) h.2 j hj'
 | .stop, F, listed, a, w, hB, hsh, hrd, h => fun j hj => by cases hj
 | .float i r, F, listed, a, w, hB, hsh, hrd, h => by simp [C1.ok] at hB
 | .chain i r, F, listed, a, w, hB, hsh, hrd, h => by simp [C1.ok] at hB
 | .tail m, F, listed, a, w, hB, hsh, hrd, h => by simp [C1.ok] at hB
end
theorem C1.j6 {ops : List Oper} {n i : Nat} {r : C1} {o : Oper} {v : Value} {a : Act} {w : World} (ho : ops[i]? = some o) (hw : Region.wanted o (yielded ops.toArray a.tmps) = true)
  (hQ : ∀ c a w, Q (.panic c) (a.put o.dst v) w → Q (.panic c) a w)
  (hy : ∀ w, S w → (execOp a.eval o).run P w = .ok (.value v) w) (h : r.wp P ops Q S n (a.put o.dst v) w) : (C1.float i r).wp P ops Q S n a w :=
 ⟨o, v, ho, .inl ⟨hw, fun w hS => by unfold Oper.quietAt; rw [hy w hS]; exact ⟨rfl, rfl⟩⟩, hQ, h⟩
theorem C1.G7 {ops : List Oper} {n i : Nat} {r : C1} {o : Oper} {a : Act} {w : World} (ho : ops[i]? = some o)
  (h : ∀ K' : Act → World → Prop, Shut (∀ a w, S w → r.wp P ops Q S n a w → K' a w) → if Region.wanted o (yielded ops.toArray a.tmps) = true then Oper.wp P o a w K' Q else K' (a.put o.dst undef) w) :
  (C1.chain i r).wp P ops Q S n a w :=
 wpOp_step (by simpa using ho) (fun K' hK => h K' (fun a w hS hW => hK a w ⟨hS, hW⟩))
theorem C1.F8 {ops : List Oper} {n : Nat} {a : Act} {w : World} (h : wpList P ops.toArray Q (ops.drop n) a w) : (C1.tail n).wp P ops Q S n a w := h
end
end Go.Proofs.YtmbclopkopfngaaGreat
