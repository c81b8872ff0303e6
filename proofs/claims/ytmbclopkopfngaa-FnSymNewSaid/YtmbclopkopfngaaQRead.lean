/-
  Read, TabPure, Rd, To, Clone, TabLaw
-/
import Derived.Test.YtmbclopkopfngaaQLib
import Derived.Test.YtmbclopkopfngaaQTy
import Derived.Test.YtmbclopkopfngaaQAppLib
import Derived.ProofKit
import Derived.OpenShut
import Derived.Lib.SmallJoins
import Derived.Deep.Slices
import Derived.Test.YtmbclopkopfngaaRows
namespace Go.Proofs.Ytmbclopkopfngaa
open Go.RowKit Go.ChangeShapes Go.WideShapes
set_option linter.unusedVariables false
set_option linter.unusedSimpArgs false

/-- Whatever can be read at a type reads as a value of a Lean type, in memory that is there. -/
def Rd (P : Program) (t : TypeId) (α : Type) [Rep α] : Prop :=
  P.cellsOf t = Rep.sz α ∧ 0 < Rep.sz α ∧ ∀ {H : Type} (enc : TypeId × Value → H) (w : World) (base : Nat) (spare : Nat → Bool) (held : Bool) (fuel : Nat) (cs : List Value) (x : DataW H × List MemPlace),
    DataW.trod enc P w base spare held fuel t cs = some x → ∃ a : α, Rep.rep w (Old w) cs a

theorem fits_of_wf {n : Int} (h : (Lit.int .i64 n).wf = true) : Fits n := by
  simpa [Lit.wf, IntKind.min, IntKind.max, IntKind.signed, IntKind.bits, Fits] using h
theorem Rd.int {P : Program} {t : TypeId} (ht : P.underlying t = some (.int .i64)) (hc : P.cellsOf t = 1) : Rd P t Int := by
  refine ⟨hc, Nat.one_pos, ?_⟩
  intro H enc w base spare held fuel cs x h
  obtain ⟨n, rfl, _, hw⟩ := DataW.trod_int ht h
  exact ⟨n, rfl, fits_of_wf hw⟩
theorem Rd.bool {P : Program} {t : TypeId} (ht : P.underlying t = some .bool) (hc : P.cellsOf t = 1) : Rd P t Bool := by
  refine ⟨hc, Nat.one_pos, ?_⟩
  intro H enc w base spare held fuel cs x h
  obtain ⟨n, rfl, _⟩ := DataW.trod_bool ht h
  exact ⟨n, rfl⟩
theorem Rd.byte {P : Program} {t : TypeId} (ht : P.underlying t = some (.int .u8)) (hc : P.cellsOf t = 1) : Rd P t UInt8 := by
  refine ⟨hc, Nat.one_pos, ?_⟩
  intro H enc w base spare held fuel cs x h
  obtain ⟨n, rfl, _, hw⟩ := DataW.trod_int ht h
  have hb : 0 ≤ n ∧ n ≤ 255 := by simpa [Lit.wf, IntKind.min, IntKind.max, IntKind.signed, IntKind.bits] using hw
  refine ⟨UInt8.ofNat n.toNat, ?_⟩
  show [Value.int .u8 n] = [.int .u8 ((UInt8.ofNat n.toNat).toNat : Int)]
  have : ((UInt8.ofNat n.toNat).toNat : Int) = n := by
    simp [UInt8.toNat_ofNat']; omega
  rw [this]
theorem exists_list {α : Type} (n : Nat) (Q : Nat → α → Prop) (h : ∀ i, i < n → ∃ a, Q i a) : ∃ l : List α, l.length = n ∧ ∀ i a, l[i]? = some a → Q i a := by
  induction n with
  | zero => exact ⟨[], rfl, fun i a h => by simp at h⟩
  | succ n ih =>
    obtain ⟨l, hl, hq⟩ := ih fun i hi => h i (by omega)
    obtain ⟨a, ha⟩ := h n (by omega)
    refine ⟨l ++ [a], by simp [hl], fun i b hb => ?_⟩
    by_cases e : i < l.length
    · rw [List.getElem?_append_left e] at hb; exact hq i b hb
    · rw [List.getElem?_append_right (by omega)] at hb
      have e2 : i - l.length = 0 := by
        have := (List.getElem?_eq_some_iff.1 hb).1; simp at this; omega
      rw [e2] at hb
      simp at hb
      subst hb
      rw [show i = n by omega]; exact ha
theorem addr_add (b off i : Nat) : (⟨b, off, none⟩ : Addr).add i = ⟨b, off + i, none⟩ := by
  unfold Addr.add
  by_cases h : i = 0 <;> simp [h]
theorem Rd.slice {P : Program} {t e : TypeId} {α : Type} [Rep α] (ht : P.underlying t = some (.slice e)) (hc : P.cellsOf t = 1) (he : Rd P e α) : Rd P t (List α) := by
  refine ⟨hc, Nat.one_pos, ?_⟩
  intro H enc w base spare held fuel cs x h
  rcases DataW.trod_slice ht h with ⟨rfl, _⟩ | ⟨a, len, cap, elems, rest, n, _, rfl, _, hb, hl, hm, hlen, hel, _⟩
  · exact ⟨[], _, rfl, Sl.nil _ _⟩
  · have hel' : ∀ i, i < len → ∃ cs' x', w.cells? base (a.add (i * P.cellsOf e)) (P.cellsOf e) = some cs' ∧ DataW.trod enc P w base spare held n e cs' = some x' := by
      intro i hi
      have h1 := hel i hi
      rw [List.getElem?_eq_getElem (by omega)] at h1
      obtain ⟨cs', h2, h3⟩ := Option.bind_eq_some_iff.1 h1
      exact ⟨cs', _, h2, h3⟩
    by_cases h0 : len = 0
    · subst h0
      exact ⟨[], _, rfl, some a, cap, rfl, hl, hm, fun h => by simp at h, fun h => absurd rfl h⟩
    · have hspot : a.spot = none := by
        obtain ⟨cs', x', h2, _⟩ := hel' 0 (by omega)
        obtain ⟨_, h4, h5⟩ := World.cells?_some h2
        have h6 := h5 0 (by rw [he.1]; exact he.2.1)
        rw [List.getElem?_eq_getElem (by rw [h4, he.1]; exact he.2.1)] at h6
        cases hs : a.spot with
        | none => rfl
        | some s =>
          exfalso
          simp [Addr.add, World.cell?, hs] at h6
          split at h6 <;> simp at h6
      obtain ⟨b, off, sp⟩ := a
      simp only at hspot
      subst hspot
      have hblt : b < w.heap.size := by
        obtain ⟨cs', x', h2, _⟩ := hel' 0 (by omega)
        obtain ⟨_, h4, h5⟩ := World.cells?_some h2
        have h6 := h5 0 (by rw [he.1]; exact he.2.1)
        rw [List.getElem?_eq_getElem (by rw [h4, he.1]; exact he.2.1), addr_add, addr_add] at h6
        exact cell_lt h6
      obtain ⟨l, hl1, hl2⟩ := exists_list len (fun i a => At w (Old w) b off i a) (fun i hi => by
        obtain ⟨cs', x', h2, h3⟩ := hel' i hi
        obtain ⟨_, h4, h5⟩ := World.cells?_some h2
        obtain ⟨v, hv⟩ := he.2.2 enc w base spare held n cs' x' h3
        refine ⟨v, cs', hv, fun j u hu => ?_⟩
        have h6 := h5 j (by rw [← h4]; exact (List.getElem?_eq_some_iff.1 hu).1)
        rw [addr_add, addr_add, hu, he.1] at h6
        rw [← Nat.add_assoc]
        exact h6)
      refine ⟨l, _, rfl, some ⟨b, off, none⟩, cap, by rw [hl1], by omega, hm, fun h => by simp at h, fun _ => ⟨b, off, rfl, hblt, hl2⟩⟩
/-- 'post_of_same' (Derived/ChangeSame), asked of frozen ranges of blocks that were there alone. -/
theorem post_of_ext {H : Type} {enc : TypeId × Value → H} {P : Program} {f : Func} {s : ChangeSpec} {apart fresh handsOn again : Bool} {W W' : World} {args : Array Value} {v : Value} {ds gs : List (DataW H)} {before pa pv : List MemPlace}
    (hW : DataW.Whole enc P f.params.toList s.vars apart W args.toList ds gs before)
    (hres : ∀ (b : Nat) (sp : Nat → Bool) (hd : Bool), DataW.TrodAll enc P W' b sp hd f.resultTypes.toList (v.resultList f.resultTypes.size) (s.fn H (ds ++ gs)).results [])
    (hargs : ∀ sp : Nat → Bool, (∀ p ∈ before, sp p.block = true) → DataW.TrodAll enc P W' 0 sp true f.params.toList args.toList (s.fn H (ds ++ gs)).args pa)
    (hvars : ∀ sp : Nat → Bool, (∀ p ∈ before, sp p.block = true) → DataW.TrodVars enc P W' sp s.vars (s.fn H (ds ++ gs)).vars pv)
    (hps : before = pa ++ pv) (hx : Ext W W')
    (hok : ∀ (j : Nat) (t : TypeId) (r : Value), f.resultTypes[j]? = some t → (v.resultList f.resultTypes.size)[j]? = some r → Value.okWide P W' .any 0 t r) :
    s.post enc P f apart fresh handsOn again W args v W' := by
  have hlt := fun p (hp : p ∈ before) => hW.lt p hp
  have hold : ∀ p ∈ before, (fun b => decide (b < W.heap.size)) p.block = true := fun p hp => by simpa using hlt p hp
  refine ⟨ds, gs, before, [], pa, pv, hW, hres _ _ _, hargs _ hold, hvars _ hold, World.keptBut_mono (fun p hp => ⟨hp, ?_⟩) (hx.below.frame (· ∈ before)), fun _ => ?_⟩
  · rw [hps, List.mem_append] at hp
    exact Or.inr hp
  · obtain ⟨_, _, _, _, _, hz, hn⟩ := hW
    refine ⟨hok, _, _, ([] ++ pa) ++ pv, ⟨[] ++ pa, pv, trodAll_append (hargs _ (fun _ _ => rfl)) (hres _ _ _), hvars _ (fun _ _ => rfl), rfl, ?_, ?_⟩, ?_⟩
    · intro b off hp
      have hm : MemPlace.cell b off ∈ before := by rw [hps]; simpa using hp
      rw [hx.fz _ (hlt _ hm)]
      exact hz b off hm
    · intro ha
      have := hn ha
      rw [hps] at this
      simpa using this
    · intro p hp _
      rw [hps]
      simpa using hp

end Go.Proofs.Ytmbclopkopfngaa

namespace Go.Proofs.Ytmbclopkopfngaa
open Go.RowKit
set_option linter.unusedVariables false
set_option linter.unusedSimpArgs false

def bareB (a : TabAtom) : Bool := decide (a.x.monos.length = 0) && decide (a.y.monos.length = 0)
/-- An atom is ok behind so many. -/
def atomOkB (a : TabAtom) (n : Int) : Bool :=
  if a.kind = 1 then inB a.k 0 3 && bareB a
  else if a.kind = 2 ∨ a.kind = 3 then inB a.k 0 199 && bareB a
  else if a.kind = 4 then inB a.k 1 5 && polOkB a.x && polOkB a.y && polUnderB a.x n && polUnderB a.y n
  else false
def gA (l : List TabAtom) (k : Nat) : TabAtom := (l[k]?).getD ⟨0, 0, ⟨[]⟩, ⟨[]⟩⟩
theorem gA_at (l : List TabAtom) (k : Nat) (h : k < l.length) : gA l k = l[k] := by simp [gA, List.getElem?_eq_getElem h]
def freshB (l : List TabAtom) (k : Nat) : Bool := allB k fun j => !decide (gA l j = gA l k)
def atomAtOk (l : List TabAtom) (k : Nat) : Bool := atomOkB (gA l k) (k : Int) && freshB l k
def tabOkB (t : TabTab) : Bool := decide (t.atoms.length ≤ 200) && allB t.atoms.length (atomAtOk t.atoms)
/-- The place of an atom; -1, if there is none. -/
def findFrom (a : TabAtom) : Nat → List TabAtom → Int
  | _, [] => -1
  | k, b :: r => if a = b then (k : Int) else findFrom a (k + 1) r
def findT (l : List TabAtom) (a : TabAtom) : Int := findFrom a 0 l
theorem findFrom_at {a : TabAtom} : ∀ (l : List TabAtom) (n k : Nat), k < l.length → (∀ j, j < k → gA l j ≠ a) → gA l k = a → findFrom a n l = ((n + k : Nat) : Int)
  | [], _, _, h, _, _ => by simp at h
  | b :: r, n, 0, _, _, h => by
    have h' : b = a := by simpa [gA] using h
    rw [findFrom, if_pos h'.symm]
    rfl
  | b :: r, n, k + 1, h, hn, he => by
    have hb : ¬ a = b := fun e => hn 0 (by omega) (by simpa [gA] using e.symm)
    rw [findFrom, if_neg hb, findFrom_at r (n + 1) k (by simpa using h) (fun j hj => by have := hn (j + 1) (by omega); simpa [gA] using this) (by simpa [gA] using he)]
    omega
theorem findFrom_none {a : TabAtom} : ∀ (l : List TabAtom) (n : Nat), (∀ j, j < l.length → gA l j ≠ a) → findFrom a n l = -1
  | [], _, _ => rfl
  | b :: r, n, h => by
    have hb : ¬ a = b := fun e => h 0 (by simp) (by simpa [gA] using e.symm)
    rw [findFrom, if_neg hb, findFrom_none r (n + 1) fun j hj => by have := h (j + 1) (by simpa using hj); simpa [gA] using this]
theorem findT_at {l : List TabAtom} {a : TabAtom} {k : Nat} (hk : k < l.length) (h : ∀ j, j < k → gA l j ≠ a) (e : gA l k = a) : findT l a = (k : Int) := by
  unfold findT; rw [findFrom_at l 0 k hk h e]; simp
theorem findT_none {l : List TabAtom} {a : TabAtom} (h : ∀ j, j < l.length → gA l j ≠ a) : findT l a = -1 := findFrom_none l 0 h
theorem findT_cases (l : List TabAtom) (a : TabAtom) : findT l a = -1 ∨ ∃ k : Nat, k < l.length ∧ findT l a = (k : Int) ∧ gA l k = a ∧ ∀ j, j < k → gA l j ≠ a := by
  by_cases h : ∀ j, j < l.length → gA l j ≠ a
  · exact .inl (findT_none h)
  · refine .inr ?_
    have h2 : ∃ n : Nat, n < l.length ∧ gA l n = a := by
      refine Classical.byContradiction fun hc => h fun j hj e => hc ⟨j, hj, e⟩
    have h3 : ∀ n : Nat, (∃ j, j ≤ n ∧ j < l.length ∧ gA l j = a) → ∃ k : Nat, k < l.length ∧ gA l k = a ∧ ∀ j, j < k → gA l j ≠ a := by
      intro n
      induction n with
      | zero => rintro ⟨j, hj, h1, h2⟩; obtain rfl : j = 0 := by omega
                exact ⟨0, h1, h2, fun i hi => absurd hi (by omega)⟩
      | succ n ih =>
        rintro ⟨j, hj, h1, h2⟩
        by_cases hq : ∃ i, i ≤ n ∧ i < l.length ∧ gA l i = a
        · exact ih hq
        · obtain rfl : j = n + 1 := by
            refine Classical.byContradiction fun hne => hq ⟨j, by omega, h1, h2⟩
          exact ⟨n + 1, h1, h2, fun i hi e => hq ⟨i, by omega, by omega, e⟩⟩
    obtain ⟨n, hn, he⟩ := h2
    obtain ⟨k, hk, hke, hkn⟩ := h3 n ⟨n, Nat.le_refl _, hn, he⟩
    exact ⟨k, hk, findT_at hk hkn hke, hke, hkn⟩
/-- The program asks whether an atom is found at its own place. -/
theorem find_fresh {l : List TabAtom} {k : Nat} (hk : k < l.length) : (findT l (gA l k) == (k : Int)) = freshB l k := by
  rw [Bool.eq_iff_iff]
  simp only [beq_iff_eq]
  unfold freshB
  rw [allB_iff]
  rcases findT_cases l (gA l k) with h | ⟨i, hi, hf, he, hn⟩
  · constructor
    · intro q; rw [h] at q; omega
    · intro q
      have : findT l (gA l k) = (k : Int) := findT_at hk (fun j hj e => by have := q j hj; simp [e] at this) rfl
      exact this
  · constructor
    · intro q j hj
      rw [hf] at q
      obtain rfl : i = k := by omega
      simp [hn j hj]
    · intro q
      exact findT_at hk (fun j hj e => by have := q j hj; simp [e] at this) rfl
theorem monoUnder_mono {m : TrmMono} {a b : Int} (hab : a ≤ b) (h : monoUnderB a m = true) : monoUnderB b m = true := by
  unfold monoUnderB at h ⊢
  refine allB_yes fun j hj => ?_
  have := allB_at h hj
  simp at this ⊢
  omega
theorem polUnder_mono {p : TrmPoly} {a b : Int} (hab : a ≤ b) (h : polUnderB p a = true) : polUnderB p b = true := by
  unfold polUnderB at h ⊢
  exact allB_yes fun j hj => monoUnder_mono hab (allB_at h hj)
theorem atomOk_mono {a : TabAtom} {m n : Int} (h : m ≤ n) (ha : atomOkB a m = true) : atomOkB a n = true := by
  unfold atomOkB at ha ⊢
  split at ha
  · rw [if_pos (by assumption)]; exact ha
  · rw [if_neg (by assumption)]
    split at ha
    · rw [if_pos (by assumption)]; exact ha
    · rw [if_neg (by assumption)]
      split at ha
      · rw [if_pos (by assumption)]
        simp only [Bool.and_eq_true] at ha ⊢
        exact ⟨⟨ha.1.1, polUnder_mono h ha.1.2⟩, polUnder_mono h ha.2⟩
      · cases ha
/-- Atoms with one more. -/
def tabPut (t : TabTab) (a : TabAtom) : TabTab :=
  if tabOkB t = true then (if (atomOkB a (t.atoms.length : Int) && (findT t.atoms a == -1) && decide (t.atoms.length < 200)) = true then ⟨t.atoms ++ [a]⟩ else t) else ⟨[]⟩
def tabPutAt (t : TabTab) (a : TabAtom) : Int :=
  if tabOkB t = true then
    (if atomOkB a (t.atoms.length : Int) = true then
      (if findT t.atoms a = -1 then (if t.atoms.length < 200 then (t.atoms.length : Int) else -1) else findT t.atoms a)
    else -1)
  else -1
theorem tab_found {t : TabTab} (h : tabOkB t = true) {a : TabAtom} (hf : findT t.atoms a ≠ -1) : atomOkB a (t.atoms.length : Int) = true := by
  rcases findT_cases t.atoms a with q | ⟨k, hk, -, he, -⟩
  · exact absurd q hf
  · unfold tabOkB at h
    simp only [Bool.and_eq_true] at h
    have := allB_at h.2 hk
    unfold atomAtOk at this
    simp only [Bool.and_eq_true] at this
    rw [he] at this
    exact atomOk_mono (by omega) this.1

end Go.Proofs.Ytmbclopkopfngaa

namespace Go.Proofs.Ytmbclopkopfngaa
open Go.RowKit
open Go.ChangeShapes Go.WideShapes
set_option linter.unusedVariables false
set_option linter.unusedSimpArgs false
set_option maxRecDepth 100000

theorem rd_UInt8 : Rd Try.prog 5 UInt8 := Rd.byte Try.underlying5 (by kernel_rfl)

theorem rd_ListUInt8 : Rd Try.prog 22 (List UInt8) := Rd.slice Try.underlying22 (by kernel_rfl) rd_UInt8

end Go.Proofs.Ytmbclopkopfngaa

namespace Go.Proofs.Ytmbclopkopfngaa
open Go.RowKit

set_option linter.unusedVariables false
set_option linter.unusedSimpArgs false
set_option maxRecDepth 100000

theorem infInt : (Try.prog.info? 3).map (fun i => (i.zero, i.size, i.bytes)) = some (some (.int .i64 0), 1, 8) := by kernel_rfl

theorem infTrmMono : (Try.prog.info? 79).map (fun i => (i.zero, i.size, i.bytes)) = some (some (.agg #[.int .i64 0, .slice none 0 0]), 2, 32) := by kernel_rfl

theorem infTrmPoly : (Try.prog.info? 28).map (fun i => (i.zero, i.size, i.bytes)) = some (some (.agg #[.slice none 0 0]), 1, 24) := by kernel_rfl

theorem infTabAtom : (Try.prog.info? 30).map (fun i => (i.zero, i.size, i.bytes)) = some (some (.agg #[.int .i64 0, .int .i64 0, .slice none 0 0, .slice none 0 0]), 4, 64) := by kernel_rfl

end Go.Proofs.Ytmbclopkopfngaa

namespace Go.Proofs.Ytmbclopkopfngaa
open Go.RowKit

set_option linter.unusedVariables false
set_option linter.unusedSimpArgs false
set_option maxRecDepth 100000

set_option maxHeartbeats 1000000 in
theorem cloneInts_any (l : List Int) (v : Value) (w : World) (h : Sl w (Old w) v l) (hn : l.length ≤ 4194304) :
    Calls Try.prog 81 #[v] w fun e w' => ∃ r F, e = .returned r ∧ OwnSl w' r l F ∧ Fr w w' F ∧ Ext w w' := by
  obtain ⟨A, c, rfl, hl, hm⟩ := h.form
  obtain ⟨i0, hi, hz0, hz1, hz2⟩ := info_parts infInt
  have HI := hide hi
  have HZ0 := hide hz0
  have HZ1 := hide hz1
  have HZ2 := hide hz2
  clear hi hz0 hz1 hz2
  go_enter Try.func81, Try.ntmps81
  go_wp2_with (at_builtin; refine wpList_append_flat (w0 := w) (α := Int) rfl _ _ 39 rfl i0 _ 8 Try.underlying39 HI.out HZ0.out HZ1.out HZ2.out rfl (App.nil w 3) rfl _ l (Old w) rfl h (by simp [maxLen]; omega) (by simp; omega) ?_; intro v' w' Fs' xs' hA; obtain ⟨F, hO, hF⟩ := hA.done; have hE := hA.ext; clear hA)
  go_ret
  exact ⟨_, F, rfl, hO, hF, hE⟩

end Go.Proofs.Ytmbclopkopfngaa

namespace Go.Proofs.Ytmbclopkopfngaa
open Go.RowKit
set_option linter.unusedVariables false
set_option linter.unusedSimpArgs false

theorem gA_left {l : List TabAtom} {a : TabAtom} {j : Nat} (h : j < l.length) : gA (l ++ [a]) j = gA l j := by
  unfold gA; rw [List.getElem?_append_left h]
theorem gA_last (l : List TabAtom) (a : TabAtom) : gA (l ++ [a]) l.length = a := by unfold gA; simp
theorem findT_no {l : List TabAtom} {a : TabAtom} (h : findT l a = -1) : ∀ j, j < l.length → gA l j ≠ a := fun j hj e => by
  rcases findT_cases l a with q | ⟨k, hk, hf, -, -⟩
  · have : ∃ n : Nat, n < l.length ∧ gA l n = a ∧ ∀ i, i < n → gA l i ≠ a := by
      have h3 : ∀ n : Nat, (∃ j, j ≤ n ∧ j < l.length ∧ gA l j = a) → ∃ k : Nat, k < l.length ∧ gA l k = a ∧ ∀ j, j < k → gA l j ≠ a := by
        intro n
        induction n with
        | zero => rintro ⟨j, hj, h1, h2⟩; obtain rfl : j = 0 := by omega
                  exact ⟨0, h1, h2, fun i hi => absurd hi (by omega)⟩
        | succ n ih =>
          rintro ⟨j, hj, h1, h2⟩
          by_cases hq : ∃ i, i ≤ n ∧ i < l.length ∧ gA l i = a
          · exact ih hq
          · obtain rfl : j = n + 1 := by
              refine Classical.byContradiction fun hne => hq ⟨j, by omega, h1, h2⟩
            exact ⟨n + 1, h1, h2, fun i hi e => hq ⟨i, by omega, by omega, e⟩⟩
      exact h3 j ⟨j, Nat.le_refl _, hj, e⟩
    obtain ⟨n, hn, he, hm⟩ := this
    have := findT_at hn hm he
    omega
  · omega
/-- Atoms that are ok with a new one that is ok are ok. -/
theorem tab_snoc {l : List TabAtom} {a : TabAtom} (h : tabOkB ⟨l⟩ = true) (ha : atomOkB a (l.length : Int) = true) (hf : findT l a = -1) (hn : l.length < 200) : tabOkB ⟨l ++ [a]⟩ = true := by
  unfold tabOkB at h ⊢
  simp only [Bool.and_eq_true, decide_eq_true_eq] at h ⊢
  refine ⟨by simp; omega, allB_yes fun j hj => ?_⟩
  have hj' : j < l.length + 1 := by simpa using hj
  by_cases e : j = l.length
  · subst e
    unfold atomAtOk freshB
    rw [gA_last, ha, Bool.true_and]
    exact allB_yes fun i hi => by rw [gA_left hi]; simp [findT_no hf i hi]
  · have hlt : j < l.length := by omega
    have h1 := allB_at h.2 hlt
    unfold atomAtOk freshB at h1 ⊢
    rw [gA_left hlt]
    simp only [Bool.and_eq_true] at h1 ⊢
    refine ⟨h1.1, allB_yes fun i hi => ?_⟩
    rw [gA_left (by omega)]
    exact allB_at h1.2 hi
end Go.Proofs.Ytmbclopkopfngaa
