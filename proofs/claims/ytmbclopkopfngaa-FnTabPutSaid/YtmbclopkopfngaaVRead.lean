/-
  Read, DrawW, Rd, To, Clone, DrawS
-/
import Derived.Test.YtmbclopkopfngaaVLib
import Derived.Test.YtmbclopkopfngaaVConstW
import Derived.Test.YtmbclopkopfngaaVAppLib
import Derived.Test.YtmbclopkopfngaaVTy
import Derived.Test.YtmbclopkopfngaaVGrowLib
import Derived.ProofKit
import Derived.OpenShut
import Derived.Lib.SmallJoins
import Derived.Deep.Slices
import Derived.Deep.DeepCutAuto
import Derived.Test.YtmbclopkopfngaaRows
namespace Go.Proofs.Ytmbclopkopfngaa
open Go.RowKit Go.ChangeShapes Go.WideShapes
set_option linter.unusedVariables false
set_option linter.unusedSimpArgs false

/-- Whatever can be read at a type reads as a value of a Lean type, in memory that is there. -/
def Rd (P : Program) (t : TypeId) (α : Type) [Rep α] : Prop :=
  P.cellsOf t = Rep.sz α ∧ 0 < Rep.sz α ∧ ∀ {H : Type} (enc : TypeId × Value → H) (w : World) (base : Nat) (spare : Nat → Bool) (held : Bool) (fuel : Nat) (cs : List Value) (x : DataW H × List MemPlace),
    DataW.trod enc P w base spare held fuel t cs = some x → ∃ a : α, Rep.rep w (Old w) cs a

theorem fits_of_wf {n : Int} (h : (Lit.int .i64 n).wf = true) : Fits n := by
  simpa [Lit.wf, IntKind.min, IntKind.max, IntKind.signed, IntKind.bits, Fits] using h
theorem Rd.int {P : Program} {t : TypeId} (ht : P.underlying t = some (.int .i64)) (hc : P.cellsOf t = 1) : Rd P t Int := by
  refine ⟨hc, Nat.one_pos, ?_⟩
  intro H enc w base spare held fuel cs x h
  obtain ⟨n, rfl, _, hw⟩ := DataW.trod_int ht h
  exact ⟨n, rfl, fits_of_wf hw⟩
theorem Rd.bool {P : Program} {t : TypeId} (ht : P.underlying t = some .bool) (hc : P.cellsOf t = 1) : Rd P t Bool := by
  refine ⟨hc, Nat.one_pos, ?_⟩
  intro H enc w base spare held fuel cs x h
  obtain ⟨n, rfl, _⟩ := DataW.trod_bool ht h
  exact ⟨n, rfl⟩
theorem Rd.byte {P : Program} {t : TypeId} (ht : P.underlying t = some (.int .u8)) (hc : P.cellsOf t = 1) : Rd P t UInt8 := by
  refine ⟨hc, Nat.one_pos, ?_⟩
  intro H enc w base spare held fuel cs x h
  obtain ⟨n, rfl, _, hw⟩ := DataW.trod_int ht h
  have hb : 0 ≤ n ∧ n ≤ 255 := by simpa [Lit.wf, IntKind.min, IntKind.max, IntKind.signed, IntKind.bits] using hw
  refine ⟨UInt8.ofNat n.toNat, ?_⟩
  show [Value.int .u8 n] = [.int .u8 ((UInt8.ofNat n.toNat).toNat : Int)]
  have : ((UInt8.ofNat n.toNat).toNat : Int) = n := by
    simp [UInt8.toNat_ofNat']; omega
  rw [this]
theorem exists_list {α : Type} (n : Nat) (Q : Nat → α → Prop) (h : ∀ i, i < n → ∃ a, Q i a) : ∃ l : List α, l.length = n ∧ ∀ i a, l[i]? = some a → Q i a := by
  induction n with
  | zero => exact ⟨[], rfl, fun i a h => by simp at h⟩
  | succ n ih =>
    obtain ⟨l, hl, hq⟩ := ih fun i hi => h i (by omega)
    obtain ⟨a, ha⟩ := h n (by omega)
    refine ⟨l ++ [a], by simp [hl], fun i b hb => ?_⟩
    by_cases e : i < l.length
    · rw [List.getElem?_append_left e] at hb; exact hq i b hb
    · rw [List.getElem?_append_right (by omega)] at hb
      have e2 : i - l.length = 0 := by
        have := (List.getElem?_eq_some_iff.1 hb).1; simp at this; omega
      rw [e2] at hb
      simp at hb
      subst hb
      rw [show i = n by omega]; exact ha
theorem addr_add (b off i : Nat) : (⟨b, off, none⟩ : Addr).add i = ⟨b, off + i, none⟩ := by
  unfold Addr.add
  by_cases h : i = 0 <;> simp [h]
theorem Rd.slice {P : Program} {t e : TypeId} {α : Type} [Rep α] (ht : P.underlying t = some (.slice e)) (hc : P.cellsOf t = 1) (he : Rd P e α) : Rd P t (List α) := by
  refine ⟨hc, Nat.one_pos, ?_⟩
  intro H enc w base spare held fuel cs x h
  rcases DataW.trod_slice ht h with ⟨rfl, _⟩ | ⟨a, len, cap, elems, rest, n, _, rfl, _, hb, hl, hm, hlen, hel, _⟩
  · exact ⟨[], _, rfl, Sl.nil _ _⟩
  · have hel' : ∀ i, i < len → ∃ cs' x', w.cells? base (a.add (i * P.cellsOf e)) (P.cellsOf e) = some cs' ∧ DataW.trod enc P w base spare held n e cs' = some x' := by
      intro i hi
      have h1 := hel i hi
      rw [List.getElem?_eq_getElem (by omega)] at h1
      obtain ⟨cs', h2, h3⟩ := Option.bind_eq_some_iff.1 h1
      exact ⟨cs', _, h2, h3⟩
    by_cases h0 : len = 0
    · subst h0
      exact ⟨[], _, rfl, some a, cap, rfl, hl, hm, fun h => by simp at h, fun h => absurd rfl h⟩
    · have hspot : a.spot = none := by
        obtain ⟨cs', x', h2, _⟩ := hel' 0 (by omega)
        obtain ⟨_, h4, h5⟩ := World.cells?_some h2
        have h6 := h5 0 (by rw [he.1]; exact he.2.1)
        rw [List.getElem?_eq_getElem (by rw [h4, he.1]; exact he.2.1)] at h6
        cases hs : a.spot with
        | none => rfl
        | some s =>
          exfalso
          simp [Addr.add, World.cell?, hs] at h6
          split at h6 <;> simp at h6
      obtain ⟨b, off, sp⟩ := a
      simp only at hspot
      subst hspot
      have hblt : b < w.heap.size := by
        obtain ⟨cs', x', h2, _⟩ := hel' 0 (by omega)
        obtain ⟨_, h4, h5⟩ := World.cells?_some h2
        have h6 := h5 0 (by rw [he.1]; exact he.2.1)
        rw [List.getElem?_eq_getElem (by rw [h4, he.1]; exact he.2.1), addr_add, addr_add] at h6
        exact cell_lt h6
      obtain ⟨l, hl1, hl2⟩ := exists_list len (fun i a => At w (Old w) b off i a) (fun i hi => by
        obtain ⟨cs', x', h2, h3⟩ := hel' i hi
        obtain ⟨_, h4, h5⟩ := World.cells?_some h2
        obtain ⟨v, hv⟩ := he.2.2 enc w base spare held n cs' x' h3
        refine ⟨v, cs', hv, fun j u hu => ?_⟩
        have h6 := h5 j (by rw [← h4]; exact (List.getElem?_eq_some_iff.1 hu).1)
        rw [addr_add, addr_add, hu, he.1] at h6
        rw [← Nat.add_assoc]
        exact h6)
      refine ⟨l, _, rfl, some ⟨b, off, none⟩, cap, by rw [hl1], by omega, hm, fun h => by simp at h, fun _ => ⟨b, off, rfl, hblt, hl2⟩⟩
/-- 'post_of_same' (Derived/ChangeSame), asked of frozen ranges of blocks that were there alone. -/
theorem post_of_ext {H : Type} {enc : TypeId × Value → H} {P : Program} {f : Func} {s : ChangeSpec} {apart fresh handsOn again : Bool} {W W' : World} {args : Array Value} {v : Value} {ds gs : List (DataW H)} {before pa pv : List MemPlace}
    (hW : DataW.Whole enc P f.params.toList s.vars apart W args.toList ds gs before)
    (hres : ∀ (b : Nat) (sp : Nat → Bool) (hd : Bool), DataW.TrodAll enc P W' b sp hd f.resultTypes.toList (v.resultList f.resultTypes.size) (s.fn H (ds ++ gs)).results [])
    (hargs : ∀ sp : Nat → Bool, (∀ p ∈ before, sp p.block = true) → DataW.TrodAll enc P W' 0 sp true f.params.toList args.toList (s.fn H (ds ++ gs)).args pa)
    (hvars : ∀ sp : Nat → Bool, (∀ p ∈ before, sp p.block = true) → DataW.TrodVars enc P W' sp s.vars (s.fn H (ds ++ gs)).vars pv)
    (hps : before = pa ++ pv) (hx : Ext W W')
    (hok : ∀ (j : Nat) (t : TypeId) (r : Value), f.resultTypes[j]? = some t → (v.resultList f.resultTypes.size)[j]? = some r → Value.okWide P W' .any 0 t r) :
    s.post enc P f apart fresh handsOn again W args v W' := by
  have hlt := fun p (hp : p ∈ before) => hW.lt p hp
  have hold : ∀ p ∈ before, (fun b => decide (b < W.heap.size)) p.block = true := fun p hp => by simpa using hlt p hp
  refine ⟨ds, gs, before, [], pa, pv, hW, hres _ _ _, hargs _ hold, hvars _ hold, World.keptBut_mono (fun p hp => ⟨hp, ?_⟩) (hx.below.frame (· ∈ before)), fun _ => ?_⟩
  · rw [hps, List.mem_append] at hp
    exact Or.inr hp
  · obtain ⟨_, _, _, _, _, hz, hn⟩ := hW
    refine ⟨hok, _, _, ([] ++ pa) ++ pv, ⟨[] ++ pa, pv, trodAll_append (hargs _ (fun _ _ => rfl)) (hres _ _ _), hvars _ (fun _ _ => rfl), rfl, ?_, ?_⟩, ?_⟩
    · intro b off hp
      have hm : MemPlace.cell b off ∈ before := by rw [hps]; simpa using hp
      rw [hx.fz _ (hlt _ hm)]
      exact hz b off hm
    · intro ha
      have := hn ha
      rw [hps] at this
      simpa using this
    · intro p hp _
      rw [hps]
      simpa using hp

end Go.Proofs.Ytmbclopkopfngaa

namespace Go.Proofs.Ytmbclopkopfngaa
open Go.RowKit

set_option linter.unusedVariables false
set_option linter.unusedSimpArgs false
set_option maxRecDepth 100000

theorem Bx.at_ {w : World} {b : Nat} {L : List Int} (h : Bx w b (L.map (Value.int .i64))) {v : Nat} (hv : v < L.length) : w.cell? ⟨b, v, none⟩ = some (.int .i64 L[v]) := h v _ (by rw [List.getElem?_map, List.getElem?_eq_getElem hv]; rfl)

theorem odd_any (rb base P : Nat) (w : World) (h : Rdr rb base P w) (hP : P ≤ 1099511627000) (n : Int) (hn : n ≤ 1099511627776) (hn0 : -1099511627776 ≤ n) :
    Calls Try.prog 36 #[.pointer (some ⟨rb, 0, none⟩), .int .i64 n] w fun e w' => (∃ b : Bool, e = .returned (.bool b)) ∧ Rdr rb base (P + 1) w' ∧ Turn [rb] w w' := by
  go_enter Try.func36, Try.ntmps36
  go_wp2_with fail
  refine (pick_any rb base P w h (by omega) n hn hn0).mono ?_
  rintro e w1 ⟨⟨v, rfl, hv⟩, hR, hT⟩
  go_wp2
  go_ret
  exact ⟨⟨_, rfl⟩, hR, hT⟩

set_option maxHeartbeats 4000000 in
theorem l20Word_any (rb base P : Nat) (w : World) (h : Rdr rb base P w) (hP : P ≤ 1099511627000) : Calls Try.prog 53 #[.pointer (some ⟨rb, 0, none⟩)] w fun e w' => (∃ v : Int, e = .returned (.int .i64 v) ∧ 0 ≤ v ∧ v < 65536) ∧ Rdr rb base (P + 3) w' ∧ Turn [rb] w w' := by
  have hlt := h.lt
  go_enter Try.func53, Try.ntmps53
  go_wp2_with fail
  refine (pick_any rb base P w h (by omega) 4 (by omega) (by omega)).mono ?_
  rintro e w1 ⟨⟨v, rfl, hv0, hv1⟩, hR, hT⟩
  have hv2 : v < 4 := by omega
  clear hv1
  have hc : v = 0 ∨ v = 1 ∨ v = 2 ∨ v = 3 := by omega
  clear hv0 hv2
  have big : (v = 2 ∨ v = 3) → True := fun _ => trivial
  rcases hc with rfl | rfl | hv
  · go_wp2_with fail
    refine (pick_any rb base _ _ (hR.ext Ext.auto) (by omega) 9 (by omega) (by omega)).mono ?_
    rintro e w2 ⟨⟨v, rfl, hv0, hv1⟩, hR2, hT2⟩
    have hlt1 := hR.lt
    have hs2 := hT2.size
    obtain ⟨V, rfl⟩ := Int.eq_ofNat_of_zero_le hv0
    have hV : V < 9 := by omega
    clear hv1 hv0
    have hBt : Bx w2 w1.heap.size (List.map (Value.int .i64) [0, 1, 2, 3, 65535, 32768, 255, 256, 65534]) := hT2.bx (Bx.new w1 #[.int .i64 0, .int .i64 1, .int .i64 2, .int .i64 3, .int .i64 65535, .int .i64 32768, .int .i64 255, .int .i64 256, .int .i64 65534] 3) (by simp) (by simp; omega)
    have hu := hBt.at_ (v := V) hV
    have yt : w1.heap.size < w2.heap.size := by simp at hs2; omega
    have z0 : (0 : Int) ≤ (V : Int) := by omega
    have z1 : (V : Int) < 9 := by omega
    have hb : ∀ x ∈ ([0, 1, 2, 3, 65535, 32768, 255, 256, 65534] : List Int), 0 ≤ x ∧ x < 65536 := by decide
    have hb2 := hb _ (List.getElem_mem (l := [0, 1, 2, 3, 65535, 32768, 255, 256, 65534]) (n := V) hV)
    clear hb
    generalize ([0, 1, 2, 3, 65535, 32768, 255, 256, 65534] : List Int)[V] = u at *
    go_wp2
    go_ret
    exact ⟨⟨u, rfl, hb2.1, hb2.2⟩, hR2.up (by omega), hT.trans (Turn.pre Ext.auto hT2)⟩
  · go_wp2_with fail
    refine (pick_any rb base _ _ hR (by omega) 70 (by omega) (by omega)).mono ?_
    rintro e w2 ⟨⟨v, rfl, hv0, hv1⟩, hR2, hT2⟩
    go_wp2
    go_ret
    exact ⟨⟨v, rfl, hv0, by omega⟩, hR2.up (by omega), hT.trans hT2⟩
  · have q0 : (v == 0) = false := by rcases hv with rfl | rfl <;> rfl
    have q1 : (v == 1) = false := by rcases hv with rfl | rfl <;> rfl
    clear hv
    go_wp2_with fail
    refine (pick_any rb base _ _ hR (by omega) 256 (by omega) (by omega)).mono ?_
    rintro e w2 ⟨⟨a, rfl, ha0, ha1⟩, hR2, hT2⟩
    have ha2 : a < 256 := by omega
    clear ha1
    go_wp2_with fail
    refine (pick_any rb base _ _ hR2 (by omega) 256 (by omega) (by omega)).mono ?_
    rintro e w3 ⟨⟨b, rfl, hb0, hb1⟩, hR3, hT3⟩
    have hb2 : b < 256 := by omega
    clear hb1
    go_wp2
    go_ret
    exact ⟨⟨_, rfl, by omega, by omega⟩, hR3.up (by omega), (hT.trans hT2).trans hT3⟩

end Go.Proofs.Ytmbclopkopfngaa

namespace Go.Proofs.Ytmbclopkopfngaa
open Go.RowKit
open Go.ChangeShapes Go.WideShapes
set_option linter.unusedVariables false
set_option linter.unusedSimpArgs false
set_option maxRecDepth 100000

theorem rd_UInt8 : Rd Try.prog 5 UInt8 := Rd.byte Try.underlying5 (by kernel_rfl)

theorem rd_ListUInt8 : Rd Try.prog 22 (List UInt8) := Rd.slice Try.underlying22 (by kernel_rfl) rd_UInt8

end Go.Proofs.Ytmbclopkopfngaa

namespace Go.Proofs.Ytmbclopkopfngaa
open Go.RowKit

set_option linter.unusedVariables false
set_option linter.unusedSimpArgs false
set_option maxRecDepth 100000

theorem infInt : (Try.prog.info? 3).map (fun i => (i.zero, i.size, i.bytes)) = some (some (.int .i64 0), 1, 8) := by kernel_rfl

theorem infTrmMono : (Try.prog.info? 79).map (fun i => (i.zero, i.size, i.bytes)) = some (some (.agg #[.int .i64 0, .slice none 0 0]), 2, 32) := by kernel_rfl

theorem infTrmPoly : (Try.prog.info? 28).map (fun i => (i.zero, i.size, i.bytes)) = some (some (.agg #[.slice none 0 0]), 1, 24) := by kernel_rfl

theorem infTabAtom : (Try.prog.info? 30).map (fun i => (i.zero, i.size, i.bytes)) = some (some (.agg #[.int .i64 0, .int .i64 0, .slice none 0 0, .slice none 0 0]), 4, 64) := by kernel_rfl

end Go.Proofs.Ytmbclopkopfngaa

namespace Go.Proofs.Ytmbclopkopfngaa
open Go.RowKit

set_option linter.unusedVariables false
set_option linter.unusedSimpArgs false
set_option maxRecDepth 100000

set_option maxHeartbeats 1000000 in
theorem cloneInts_any (l : List Int) (v : Value) (w : World) (h : Sl w (Old w) v l) (hn : l.length ≤ 4194304) :
    Calls Try.prog 81 #[v] w fun e w' => ∃ r F, e = .returned r ∧ OwnSl w' r l F ∧ Fr w w' F ∧ Ext w w' := by
  obtain ⟨A, c, rfl, hl, hm⟩ := h.form
  obtain ⟨i0, hi, hz0, hz1, hz2⟩ := info_parts infInt
  have HI := hide hi
  have HZ0 := hide hz0
  have HZ1 := hide hz1
  have HZ2 := hide hz2
  clear hi hz0 hz1 hz2
  go_enter Try.func81, Try.ntmps81
  go_wp2_with (at_builtin; refine wpList_append_flat (w0 := w) (α := Int) rfl _ _ 39 rfl i0 _ 8 Try.underlying39 HI.out HZ0.out HZ1.out HZ2.out rfl (App.nil w 3) rfl _ l (Old w) rfl h (by simp [maxLen]; omega) (by simp; omega) ?_; intro v' w' Fs' xs' hA; obtain ⟨F, hO, hF⟩ := hA.done; have hE := hA.ext; clear hA)
  go_ret
  exact ⟨_, F, rfl, hO, hF, hE⟩

end Go.Proofs.Ytmbclopkopfngaa

namespace Go.Proofs.Ytmbclopkopfngaa
open Go.RowKit

set_option linter.unusedVariables false
set_option linter.unusedSimpArgs false
set_option maxRecDepth 100000

theorem Gro.push {α : Type} [Flat α] {e : TypeId} {lo : Nat} {wa W w9 : World} {v v' : Value} {l : List α} {a : α} {Fs : List (List Nat)} {xs' : List Value} (h0 : wa.heap.size = 0) (hl : ∀ q, v.ownBlock = some q → lo ≤ q) (hW : lo ≤ W.heap.size) (hf : Fs.flatten = [])
    (h9 : App wa w9 e v' (l ++ [a]) (Fs ++ [[]]) xs') (hb : v'.ownBlock = v.ownBlock ∨ v'.ownBlock = some W.heap.size) : Gro e lo w9 v' (l ++ [a]) :=
  ⟨wa, _, xs', h0, ⟨h9, fun q hq => by
    rcases hb with hb | hb
    · exact hl q (hb ▸ hq)
    · rw [hb] at hq; injection hq with hq; omega, by simp [hf]⟩⟩

theorem Sl.take_ {α : Type} [Rep α] {w : World} {S : Nat → Prop} {A : Option Addr} {n c : Nat} {l : List α} (h : Sl w S (.slice A n c) l) {k : Nat} (hk : k ≤ l.length) : Sl w S (.slice A k c) (l.take k) := by
  obtain ⟨A', c', e, h1, h2, h3, h4⟩ := h
  injection e with e1 e2 e3
  subst e1 e3
  have hl : (l.take k).length = k := by rw [List.length_take]; omega
  refine ⟨A, c, by rw [hl], by rw [hl]; omega, h2, h3, fun hne => ?_⟩
  obtain ⟨b, off, q1, q2, q3⟩ := h4 (by intro q; subst q; exact hne (by simp))
  refine ⟨b, off, q1, q2, fun i a ha => ?_⟩
  rw [List.getElem?_take] at ha
  split at ha
  · exact q3 i a ha
  · simp at ha
theorem Rdr.new {w : World} {A : Option Addr} {c : Nat} {code : List UInt8} (h : Sl w (Old w) (.slice A code.length c) code) (hn : code.length ≤ 2000) (T : TypeId) : Rdr w.heap.size (w.heap.size + 1) 0 (w.alloc (.cells #[.slice A code.length c, .int .i64 0] T)) :=
  ⟨A, c, 0, code, {
    bx := Bx.new w #[.slice A code.length c, .int .i64 0] T
    fz := fz_new w #[.slice A code.length c, .int .i64 0] T rfl
    le := Nat.le_refl _, lt := by omega, bs := by simp
    sl := h.keep ((Ext.refl w).alloc _).old (fun b hb => ⟨Nat.lt_succ_of_lt hb, fun e => by subst e; exact absurd hb (Nat.lt_irrefl _)⟩)
    ln := hn }⟩

theorem l20Open_any (code : List UInt8) (v : Value) (w : World) (h : Sl w (Old w) v code) : Calls Try.prog 23 #[v] w fun e w' => e = .returned (.pointer (some ⟨w.heap.size, 0, none⟩)) ∧ Rdr w.heap.size (w.heap.size + 1) 0 w' ∧ Ext w w' := by
  obtain ⟨A, c, rfl, hl, hm⟩ := h.form
  unfold maxLen at hm
  by_cases hb : 2000 < code.length
  · have q1 : decide (2000 < (code.length : Int)) = true := decide_eq_true (by omega)
    have h2 := h.take_ (k := 2000) (by omega)
    have hl2 : (code.take 2000).length = 2000 := by rw [List.length_take]; omega
    have hR := Rdr.new (A := A) (c := c) (by rw [hl2]; exact h2) (by omega) 75
    rw [hl2] at hR
    have hc2 : 2000 ≤ c := by omega
    go_enter Try.func23, Try.ntmps23
    go_wp2
    go_ret
    exact ⟨rfl, hR, Ext.auto⟩
  · have q1 : decide (2000 < (code.length : Int)) = false := decide_eq_false (by omega)
    have hR := Rdr.new h (by omega) 75
    go_enter Try.func23, Try.ntmps23
    go_wp2
    go_ret
    exact ⟨rfl, hR, Ext.auto⟩

end Go.Proofs.Ytmbclopkopfngaa
