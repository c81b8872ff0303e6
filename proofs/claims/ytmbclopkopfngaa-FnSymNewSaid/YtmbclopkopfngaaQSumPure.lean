/-
  SumPure
-/
import Derived.Test.YtmbclopkopfngaaQTy
namespace Go.Proofs.Ytmbclopkopfngaa
open Go.RowKit
set_option linter.unusedVariables false
set_option linter.unusedSimpArgs false

/-! the order of atoms is one -/
theorem cmpI_neg {a b : Int} : cmpI a b < 0 ↔ a < b := by
  unfold cmpI
  split
  · rename_i h; simp [h]
  · split
    · rename_i h1 h; simp; omega
    · rename_i h1 h; simp; omega
theorem cmpI_flip (a b : Int) : cmpI b a = - cmpI a b := by
  unfold cmpI
  repeat' split
  all_goals first | omega | simp
theorem orI_flip {a b c d : Int} (h1 : c = -a) (h2 : d = -b) : orI c d = - orI a b := by
  subst h1 h2
  unfold orI
  by_cases h : a = 0
  · simp [h]
  · rw [if_neg h, if_neg (by omega)]
theorem listCmp_flip : ∀ l r : List Int, listCmp cmpI r l = - listCmp cmpI l r
  | [], [] => rfl
  | [], _ :: _ => rfl
  | _ :: _, [] => rfl
  | a :: l, b :: r => by
    rw [listCmp, listCmp]
    exact orI_flip (cmpI_flip a b) (listCmp_flip l r)
theorem atomsOrd_flip (a b : List Int) : atomsOrd b a = - atomsOrd a b := orI_flip (cmpI_flip _ _) (listCmp_flip a b)
theorem listCmp_trans : ∀ a b c : List Int, a.length = b.length → b.length = c.length → listCmp cmpI a b < 0 → listCmp cmpI b c < 0 → listCmp cmpI a c < 0
  | [], [], [], _, _, h, _ => h
  | x :: a, y :: b, z :: c, h1, h2, h3, h4 => by
    rw [listCmp] at h3 h4 ⊢
    unfold orI at h3 h4 ⊢
    by_cases e1 : cmpI x y = 0
    · have q1 := cmpI_zero.1 e1
      subst q1
      rw [if_pos e1] at h3
      by_cases e2 : cmpI x z = 0
      · rw [if_pos e2] at h4 ⊢
        exact listCmp_trans a b c (by simpa using h1) (by simpa using h2) h3 h4
      · rw [if_neg e2] at h4 ⊢
        exact h4
    · rw [if_neg e1] at h3
      have q1 := cmpI_neg.1 h3
      by_cases e2 : cmpI y z = 0
      · have q2 := cmpI_zero.1 e2
        subst q2
        rw [if_neg e1]
        exact h3
      · rw [if_neg e2] at h4
        have q2 := cmpI_neg.1 h4
        have q3 : cmpI x z < 0 := cmpI_neg.2 (by omega)
        rw [if_neg (by omega)]
        exact q3
theorem atomsOrd_trans {a b c : List Int} (h1 : atomsOrd a b < 0) (h2 : atomsOrd b c < 0) : atomsOrd a c < 0 := by
  unfold atomsOrd at *
  by_cases e1 : a.length = b.length
  · rw [sizeCmp_same e1] at h1
    by_cases e2 : b.length = c.length
    · rw [sizeCmp_same e2] at h2
      rw [sizeCmp_same (e1.trans e2)]
      exact listCmp_trans a b c e1 e2 h1 h2
    · rw [sizeCmp_len e2] at h2
      rw [sizeCmp_len (by omega), e1]
      exact h2
  · rw [sizeCmp_len e1] at h1
    have q1 := cmpI_neg.1 h1
    by_cases e2 : b.length = c.length
    · rw [sizeCmp_len (by omega), ← e2]
      exact h1
    · rw [sizeCmp_len e2] at h2
      have q2 := cmpI_neg.1 h2
      rw [sizeCmp_len (by omega)]
      exact cmpI_neg.2 (by omega)

/-! what is ok -/
/-- A part whose atoms are below n, however many they are. -/
def MonoW (n : Int) (m : TrmMono) : Prop := (1 ≤ m.coef ∧ m.coef ≤ 65535) ∧ m.atoms.Pairwise (· ≤ ·) ∧ ∀ x, x ∈ m.atoms → 0 ≤ x ∧ x < n
/-- Parts in order. -/
def SumW (n : Int) (l : List TrmMono) : Prop := l.Pairwise (fun a b => atomsOrd a.atoms b.atoms < 0) ∧ ∀ m, m ∈ l → MonoW n m
theorem SumW.nil (n : Int) : SumW n [] := ⟨List.Pairwise.nil, fun m h => by simp at h⟩

/-! one part more -/
def plusGo (m : TrmMono) : Bool → List TrmMono → List TrmMono
  | d, [] => if d then [] else [m]
  | d, x :: r =>
    (if !d && decide (atomsOrd m.atoms x.atoms < 0) then [m] else []) ++
    (if atomsOrd m.atoms x.atoms = 0 then (if 0 < (x.coef + m.coef) % 65536 then [⟨(x.coef + m.coef) % 65536, x.atoms⟩] else []) else [x]) ++
    plusGo m (d || decide (atomsOrd m.atoms x.atoms < 0) || decide (atomsOrd m.atoms x.atoms = 0)) r
def plusL (l : List TrmMono) (m : TrmMono) : List TrmMono := plusGo m false l
/-- Behind what is greater nothing is turned. -/
theorem plusGo_done {m : TrmMono} : ∀ l : List TrmMono, (∀ x, x ∈ l → atomsOrd m.atoms x.atoms < 0) → plusGo m true l = l
  | [], _ => rfl
  | x :: r, h => by
    have hx := h x (by simp)
    have e : ¬ atomsOrd m.atoms x.atoms = 0 := by omega
    rw [plusGo, Bool.true_or, Bool.true_or, plusGo_done r (fun y hy => h y (by simp [hy]))]
    simp [e]
theorem plusGo_ok {n : Int} {m : TrmMono} (hm : MonoW n m) : ∀ l : List TrmMono, SumW n l → SumW n (plusGo m false l) ∧ ∀ y, y ∈ plusGo m false l → (y = m ∨ ∃ x, x ∈ l ∧ y.atoms = x.atoms)
  | [], _ => by
    refine ⟨⟨by simp [plusGo], fun y hy => ?_⟩, fun y hy => ?_⟩
    · simp [plusGo] at hy; subst hy; exact hm
    · simp [plusGo] at hy; exact .inl hy
  | x :: r, h => by
    have hp := List.pairwise_cons.1 h.1
    have hr : SumW n r := ⟨hp.2, fun y hy => h.2 y (by simp [hy])⟩
    have hxw := h.2 x (by simp)
    by_cases h1 : atomsOrd m.atoms x.atoms < 0
    · have e : plusGo m false (x :: r) = m :: x :: r := by
        rw [plusGo]
        have h0 : ¬ atomsOrd m.atoms x.atoms = 0 := by omega
        simp [h1, h0]
        exact plusGo_done r (fun y hy => atomsOrd_trans h1 (hp.1 y hy))
      rw [e]
      refine ⟨⟨List.pairwise_cons.2 ⟨fun y hy => ?_, h.1⟩, fun y hy => ?_⟩, fun y hy => ?_⟩
      · rcases List.mem_cons.1 hy with rfl | hy
        · exact h1
        · exact atomsOrd_trans h1 (hp.1 y hy)
      · rcases List.mem_cons.1 hy with rfl | hy
        · exact hm
        · exact h.2 y hy
      · rcases List.mem_cons.1 hy with rfl | hy
        · exact .inl rfl
        · exact .inr ⟨y, hy, rfl⟩
    · by_cases h0 : atomsOrd m.atoms x.atoms = 0
      · have he := (atomsOrd_zero _ _).1 h0
        have hd : plusGo m true r = r := plusGo_done r (fun y hy => by rw [he]; exact hp.1 y hy)
        by_cases hc : 0 < (x.coef + m.coef) % 65536
        · have e : plusGo m false (x :: r) = ⟨(x.coef + m.coef) % 65536, x.atoms⟩ :: r := by
            rw [plusGo]
            simp [h0, hc, hd]
          rw [e]
          refine ⟨⟨List.pairwise_cons.2 ⟨fun y hy => hp.1 y hy, hp.2⟩, fun y hy => ?_⟩, fun y hy => ?_⟩
          · rcases List.mem_cons.1 hy with rfl | hy
            · exact ⟨⟨by show 1 ≤ (x.coef + m.coef) % 65536; omega, by show (x.coef + m.coef) % 65536 ≤ 65535; omega⟩, hxw.2⟩
            · exact h.2 y (by simp [hy])
          · rcases List.mem_cons.1 hy with rfl | hy
            · exact .inr ⟨x, by simp, rfl⟩
            · exact .inr ⟨y, by simp [hy], rfl⟩
        · have e : plusGo m false (x :: r) = r := by
            rw [plusGo]
            simp [h0, hc, hd]
          rw [e]
          exact ⟨hr, fun y hy => .inr ⟨y, by simp [hy], rfl⟩⟩
      · have e : plusGo m false (x :: r) = x :: plusGo m false r := by
          rw [plusGo]
          simp [h1, h0]
        have hgt : atomsOrd x.atoms m.atoms < 0 := by have := atomsOrd_flip m.atoms x.atoms; omega
        obtain ⟨i1, i2⟩ := plusGo_ok hm r hr
        rw [e]
        refine ⟨⟨List.pairwise_cons.2 ⟨fun y hy => ?_, i1.1⟩, fun y hy => ?_⟩, fun y hy => ?_⟩
        · rcases i2 y hy with rfl | ⟨z, hz, hze⟩
          · exact hgt
          · rw [hze]; exact hp.1 z hz
        · rcases List.mem_cons.1 hy with rfl | hy
          · exact hxw
          · exact i1.2 y hy
        · rcases List.mem_cons.1 hy with rfl | hy
          · exact .inr ⟨y, by simp, rfl⟩
          · rcases i2 y hy with rfl | ⟨z, hz, hze⟩
            · exact .inl rfl
            · exact .inr ⟨z, by simp [hz], hze⟩
theorem plus_ok {n : Int} {l : List TrmMono} {m : TrmMono} (h : SumW n l) (hm : MonoW n m) : SumW n (plusL l m) := (plusGo_ok hm l h).1
theorem plusGo_len (m : TrmMono) : ∀ (l : List TrmMono) (d : Bool), (plusGo m d l).length ≤ l.length + (if d then 0 else 1)
  | [], d => by cases d <;> simp [plusGo]
  | x :: r, d => by
    rw [plusGo, List.length_append, List.length_append]
    have h1 := plusGo_len m r (d || decide (atomsOrd m.atoms x.atoms < 0) || decide (atomsOrd m.atoms x.atoms = 0))
    cases d with
    | true =>
      simp at h1 ⊢
      have : (if atomsOrd m.atoms x.atoms = 0 then (if 0 < (x.coef + m.coef) % 65536 then [(⟨(x.coef + m.coef) % 65536, x.atoms⟩ : TrmMono)] else []) else [x]).length ≤ 1 := by
        repeat' split
        all_goals simp
      omega
    | false =>
      have h2 : (if atomsOrd m.atoms x.atoms = 0 then (if 0 < (x.coef + m.coef) % 65536 then [(⟨(x.coef + m.coef) % 65536, x.atoms⟩ : TrmMono)] else []) else [x]).length ≤ 1 := by
        repeat' split
        all_goals simp
      by_cases h : atomsOrd m.atoms x.atoms < 0
      · simp [h] at h1 ⊢
        omega
      · simp [h] at h1 ⊢
        split at h1 <;> omega
theorem plus_len (l : List TrmMono) (m : TrmMono) : (plusL l m).length ≤ l.length + 1 := by have := plusGo_len m l false; simpa [plusL] using this

/-! the atoms of two parts as one -/
def mergeL : List Int → List Int → List Int
  | a, [] => a
  | a, y :: r => a.takeWhile (fun x => decide (x ≤ y)) ++ y :: mergeL (a.dropWhile (fun x => decide (x ≤ y))) r
theorem mergeL_mem {x : Int} : ∀ (b a : List Int), x ∈ mergeL a b → x ∈ a ∨ x ∈ b
  | [], a, h => .inl h
  | y :: r, a, h => by
    rw [mergeL] at h
    rcases List.mem_append.1 h with h | h
    · exact .inl (List.takeWhile_prefix _ |>.subset h)
    · rcases List.mem_cons.1 h with rfl | h
      · exact .inr (by simp)
      · rcases mergeL_mem r _ h with h | h
        · exact .inl (List.dropWhile_suffix _ |>.subset h)
        · exact .inr (by simp [h])
theorem takeWhile_all {y : Int} : ∀ (a : List Int) (x : Int), x ∈ a.takeWhile (fun x => decide (x ≤ y)) → x ≤ y
  | [], x, h => by simp at h
  | z :: r, x, h => by
    rw [List.takeWhile_cons] at h
    split at h
    · rename_i hz
      rcases List.mem_cons.1 h with rfl | h
      · simpa using hz
      · exact takeWhile_all r x h
    · simp at h
theorem dropWhile_all {y : Int} : ∀ (a : List Int), a.Pairwise (· ≤ ·) → ∀ x, x ∈ a.dropWhile (fun x => decide (x ≤ y)) → y < x
  | [], _, x, h => by simp at h
  | z :: r, hp, x, h => by
    rw [List.dropWhile_cons] at h
    split at h
    · exact dropWhile_all r (List.pairwise_cons.1 hp).2 x h
    · rename_i hz
      have hz' : y < z := by simpa using hz
      rcases List.mem_cons.1 h with rfl | h
      · exact hz'
      · have := (List.pairwise_cons.1 hp).1 x h
        omega
theorem mergeL_asc : ∀ (b a : List Int), a.Pairwise (· ≤ ·) → b.Pairwise (· ≤ ·) → (mergeL a b).Pairwise (· ≤ ·)
  | [], a, ha, _ => ha
  | y :: r, a, ha, hb => by
    have hb' := List.pairwise_cons.1 hb
    rw [mergeL]
    refine List.pairwise_append.2 ⟨List.Pairwise.sublist (List.takeWhile_sublist _) ha, List.pairwise_cons.2 ⟨fun x hx => ?_, mergeL_asc r _ (List.Pairwise.sublist (List.dropWhile_sublist _) ha) hb'.2⟩, fun x hx z hz => ?_⟩
    · rcases mergeL_mem r _ hx with hx | hx
      · have := dropWhile_all a ha x hx; omega
      · exact hb'.1 x hx
    · have h1 := takeWhile_all a x hx
      rcases List.mem_cons.1 hz with rfl | hz
      · exact h1
      · rcases mergeL_mem r _ hz with hz | hz
        · have := dropWhile_all a ha z hz; omega
        · have := hb'.1 z hz; omega

/-! sums, products -/
def addL (a b : List TrmMono) : List TrmMono := b.foldl plusL a
theorem add_ok {n : Int} : ∀ (b a : List TrmMono), SumW n a → (∀ m, m ∈ b → MonoW n m) → SumW n (addL a b)
  | [], a, ha, _ => ha
  | m :: r, a, ha, hb => add_ok r _ (plus_ok ha (hb m (by simp))) (fun x hx => hb x (by simp [hx]))
/-- A part times a part; none, if its number is 0. -/
def mulStep (x : TrmMono) (l : List TrmMono) (y : TrmMono) : List TrmMono := if 0 < (x.coef * y.coef) % 65536 then plusL l ⟨(x.coef * y.coef) % 65536, mergeL x.atoms y.atoms⟩ else l
def mulRow (b : List TrmMono) (l : List TrmMono) (x : TrmMono) : List TrmMono := b.foldl (mulStep x) l
def mulL (a b : List TrmMono) : List TrmMono := a.foldl (mulRow b) []
theorem mulStep_ok {n : Int} {x y : TrmMono} {l : List TrmMono} (hl : SumW n l) (hx : MonoW n x) (hy : MonoW n y) : SumW n (mulStep x l y) := by
  unfold mulStep
  split
  · refine plus_ok hl ⟨⟨by show 1 ≤ x.coef * y.coef % 65536; omega, by show x.coef * y.coef % 65536 ≤ 65535; omega⟩, mergeL_asc _ _ hx.2.1 hy.2.1, fun z hz => ?_⟩
    rcases mergeL_mem _ _ hz with hz | hz
    · exact hx.2.2 z hz
    · exact hy.2.2 z hz
  · exact hl
theorem mulRow_ok {n : Int} {x : TrmMono} (hx : MonoW n x) : ∀ (b l : List TrmMono), SumW n l → (∀ y, y ∈ b → MonoW n y) → SumW n (mulRow b l x)
  | [], l, hl, _ => hl
  | y :: r, l, hl, hb => mulRow_ok hx r _ (mulStep_ok hl hx (hb y (by simp))) (fun z hz => hb z (by simp [hz]))
theorem mulFold_ok {n : Int} {b : List TrmMono} (hb : ∀ y, y ∈ b → MonoW n y) : ∀ (a l : List TrmMono), SumW n l → (∀ x, x ∈ a → MonoW n x) → SumW n (a.foldl (mulRow b) l)
  | [], l, hl, _ => hl
  | x :: r, l, hl, ha => mulFold_ok hb r _ (mulRow_ok (ha x (by simp)) b l hl hb) (fun z hz => ha z (by simp [hz]))
theorem mul_ok {n : Int} {a b : List TrmMono} (ha : SumW n a) (hb : SumW n b) : SumW n (mulL a b) := mulFold_ok hb.2 a [] (SumW.nil n) ha.2
/-- Not too many parts, none with too many atoms. -/
def fitB (l : List TrmMono) : Bool := decide (l.length ≤ 12) && allB l.length fun j => decide ((gM l j).atoms.length ≤ 4)
theorem sum_of_ok {p : TrmPoly} {n : Int} (h : polOkB p = true) (hu : polUnderB p n = true) : SumW n p.monos := by
  unfold polOkB at h
  simp only [Bool.and_eq_true, decide_eq_true_eq] at h
  have hm := allB_iff.1 h.2
  have hu' := allB_iff.1 hu
  have hat : ∀ m, m ∈ p.monos → MonoW n m := fun m hx => by
    obtain ⟨i, hi, rfl⟩ := List.getElem_of_mem hx
    have h1 := hm i hi
    have h2 := hu' i hi
    unfold monoAtB monoOkB at h1
    rw [gM_at _ _ hi] at h1 h2
    simp only [Bool.and_eq_true, decide_eq_true_eq] at h1
    have hc := h1.1.1.1
    unfold inB at hc
    simp at hc
    have ha := allB_iff.1 h1.1.2
    have hn := allB_iff.1 h2
    refine ⟨hc, List.pairwise_iff_getElem.2 fun a b ha1 hb1 hab => ?_, fun x hx => ?_⟩
    · -- step by step
      have hstep : ∀ d, a + d < p.monos[i].atoms.length → p.monos[i].atoms[a] ≤ gN p.monos[i].atoms (a + d) := by
        intro d
        induction d with
        | zero => intro hd; rw [Nat.add_zero, gN_at _ _ ha1]; exact Int.le_refl _
        | succ d ih =>
          intro hd
          have h4 := ih (by omega)
          have h5 := ha (a + (d + 1)) hd
          unfold atomAtB ascAtB at h5
          simp only [Bool.and_eq_true, Bool.or_eq_true, beq_iff_eq, decide_eq_true_eq] at h5
          have : gN p.monos[i].atoms (a + d) ≤ gN p.monos[i].atoms (a + (d + 1)) := by
            rcases h5.2 with q | q
            · omega
            · rw [show a + (d + 1) - 1 = a + d by omega] at q
              exact q
          omega
      have := hstep (b - a) (by omega)
      rw [show a + (b - a) = b by omega, gN_at _ _ hb1] at this
      exact this
    · obtain ⟨j, hj, rfl⟩ := List.getElem_of_mem hx
      have h3 := ha j hj
      have h4 := hn j hj
      unfold atomAtB inB at h3
      rw [gN_at _ _ hj] at h3 h4
      simp at h3 h4
      exact ⟨h3.1.1, h4⟩
  refine ⟨?_, hat⟩
  refine List.pairwise_iff_getElem.2 fun a b ha1 hb1 hab => ?_
  have hstep : ∀ d, a + d + 1 < p.monos.length → atomsOrd p.monos[a].atoms (gM p.monos (a + d + 1)).atoms < 0 := by
    intro d
    induction d with
    | zero =>
      intro hd
      have h5 := hm (a + 0 + 1) hd
      unfold monoAtB lessAtB at h5
      simp only [Bool.and_eq_true, Bool.or_eq_true, beq_iff_eq, decide_eq_true_eq] at h5
      rcases h5.2 with q | q
      · omega
      · rw [show a + 0 + 1 - 1 = a by omega, gM_at _ a ha1] at q
        exact q
    | succ d ih =>
      intro hd
      have h4 := ih (by omega)
      have h5 := hm (a + (d + 1) + 1) hd
      unfold monoAtB lessAtB at h5
      simp only [Bool.and_eq_true, Bool.or_eq_true, beq_iff_eq, decide_eq_true_eq] at h5
      rcases h5.2 with q | q
      · omega
      · rw [show a + (d + 1) + 1 - 1 = a + d + 1 by omega] at q
        exact atomsOrd_trans h4 q
  have := hstep (b - a - 1) (by omega)
  rw [show a + (b - a - 1) + 1 = b by omega, gM_at _ b hb1] at this
  exact this
theorem ok_of_sum {l : List TrmMono} {n : Int} (hn : n ≤ 200) (h : SumW n l) (hf : fitB l = true) : polOkB ⟨l⟩ = true ∧ polUnderB ⟨l⟩ n = true := by
  unfold fitB at hf
  simp only [Bool.and_eq_true, decide_eq_true_eq] at hf
  have hfa := allB_iff.1 hf.2
  constructor
  · unfold polOkB
    simp only [Bool.and_eq_true, decide_eq_true_eq]
    refine ⟨hf.1, allB_yes fun j hj => ?_⟩
    have hm := h.2 l[j] (List.getElem_mem hj)
    have hl4 := hfa j hj
    unfold monoAtB monoOkB
    rw [gM_at _ _ hj] at hl4 ⊢
    simp only [Bool.and_eq_true, decide_eq_true_eq]
    refine ⟨⟨⟨by unfold inB; simp; exact hm.1, by simpa using hl4⟩, allB_yes fun i hi => ?_⟩, ?_⟩
    · unfold atomAtB inB ascAtB
      have hx := hm.2.2 _ (List.getElem_mem hi)
      rw [gN_at _ _ hi]
      simp only [Bool.and_eq_true, Bool.or_eq_true, decide_eq_true_eq, beq_iff_eq]
      refine ⟨⟨hx.1, by omega⟩, ?_⟩
      by_cases h0 : i = 0
      · exact .inl h0
      · refine .inr ?_
        rw [gN_at _ (i - 1) (by omega)]
        exact List.pairwise_iff_getElem.1 hm.2.1 (i - 1) i (by omega) hi (by omega)
    · unfold lessAtB
      simp only [Bool.or_eq_true, beq_iff_eq, decide_eq_true_eq]
      by_cases h0 : j = 0
      · exact .inl h0
      · refine .inr ?_
        rw [gM_at l (j - 1) (by omega), gM_at l j hj]
        exact List.pairwise_iff_getElem.1 h.1 (j - 1) j (by omega) hj (by omega)
  · unfold polUnderB
    refine allB_yes fun j hj => ?_
    have hm := h.2 l[j] (List.getElem_mem hj)
    unfold monoUnderB
    rw [gM_at l j hj]
    exact allB_yes fun i hi => decide_eq_true (by rw [gN_at _ _ hi]; exact (hm.2.2 _ (List.getElem_mem hi)).2)
def polAdd (a b : TrmPoly) : TrmPoly := if polOkB a && polOkB b && fitB (addL a.monos b.monos) then ⟨addL a.monos b.monos⟩ else ⟨[]⟩
def polAddOk (a b : TrmPoly) : Bool := polOkB a && polOkB b && fitB (addL a.monos b.monos)
def polMul (a b : TrmPoly) : TrmPoly := if polOkB a && polOkB b && fitB (mulL a.monos b.monos) then ⟨mulL a.monos b.monos⟩ else ⟨[]⟩
def polMulOk (a b : TrmPoly) : Bool := polOkB a && polOkB b && fitB (mulL a.monos b.monos)
theorem polAdd_ok {a b : TrmPoly} {n : Int} (hn : n ≤ 200) (h : polAddOk a b = true) (ha : polUnderB a n = true) (hb : polUnderB b n = true) : polOkB (polAdd a b) = true ∧ polUnderB (polAdd a b) n = true := by
  unfold polAdd
  unfold polAddOk at h
  rw [if_pos h]
  simp only [Bool.and_eq_true] at h
  exact ok_of_sum hn (add_ok _ _ (sum_of_ok h.1.1 ha) (sum_of_ok h.1.2 hb).2) h.2
theorem polMul_ok {a b : TrmPoly} {n : Int} (hn : n ≤ 200) (h : polMulOk a b = true) (ha : polUnderB a n = true) (hb : polUnderB b n = true) : polOkB (polMul a b) = true ∧ polUnderB (polMul a b) n = true := by
  unfold polMul
  unfold polMulOk at h
  rw [if_pos h]
  simp only [Bool.and_eq_true] at h
  exact ok_of_sum hn (mul_ok (sum_of_ok h.1.1 ha) (sum_of_ok h.1.2 hb)) h.2

end Go.Proofs.Ytmbclopkopfngaa
