/-
  Code that writes over code is drawn.
-/
import Derived.Test.YtokibcicoomceaaDoorDrawB
import Derived.Deep.DeepCutAuto
namespace Go.Proofs.YtokibcicoomceaaDoor
open Go.RowKit

set_option linter.unusedVariables false
set_option linter.unusedSimpArgs false
set_option maxRecDepth 100000

instance : Flat InsIns where
  pos := by decide
  flat h := ⟨h.1, h.2, rfl⟩
  one h u hu := by obtain ⟨rfl, _⟩ := h; simp at hu; rcases hu with rfl | rfl | rfl | rfl <;> rfl
theorem InsIn.ok {i : InsIns} (h : InsIn i) : i.Ok := by
  obtain ⟨⟨a1, a2⟩, ⟨b1, b2⟩, ⟨c1, c2⟩, ⟨d1, d2⟩⟩ := h
  refine ⟨?_, ?_, ?_, ?_⟩ <;> (unfold Fits; omega)
def cellsI (i : InsIns) : List Value := [.int .i64 i.op, .int .i64 i.d, .int .i64 i.a, .int .i64 i.k]
theorem cellsI_len : ∀ (L : List InsIns), (L.flatMap cellsI).length = 4 * L.length
  | [] => rfl
  | i :: L => by rw [List.flatMap_cons, List.length_append, cellsI_len L]; simp [cellsI]; omega
theorem cellsI_at : ∀ (L : List InsIns) (i : Nat) (a : InsIns) (j : Nat) (u : Value), L[i]? = some a → (cellsI a)[j]? = some u → (L.flatMap cellsI)[i * 4 + j]? = some u
  | [], i, a, j, u, h, _ => by simp at h
  | b :: L, 0, a, j, u, h, hu => by
    simp at h
    subst h
    rw [List.flatMap_cons, List.getElem?_append_left (by have := (List.getElem?_eq_some_iff.1 hu).1; omega), Nat.zero_mul, Nat.zero_add]
    exact hu
  | b :: L, i + 1, a, j, u, h, hu => by
    have h' : L[i]? = some a := by simpa using h
    have ih := cellsI_at L i a j u h' hu
    have e : (cellsI b).length = 4 := rfl
    rw [List.flatMap_cons, List.getElem?_append_right (by rw [e]; omega), e, show (i + 1) * 4 + j - 4 = i * 4 + j by omega]
    exact ih
/-- A slice of instructions that is laid new. -/
theorem Gro.lit (w : World) (e : TypeId) (L : List InsIns) (n : Nat) (hn : n = L.length) (hm : L.length ≤ 1000000) (hok : ∀ i, i ∈ L → i.Ok) (cs : List Value) (hcs : cs = L.flatMap cellsI) : Gro e w.heap.size (w.alloc (.cells cs.toArray e)) (.slice (some ⟨w.heap.size, 0, none⟩) n n) L := by
  subst hcs hn
  have hl := cellsI_len L
  refine ⟨voidOf w, List.replicate L.length [], L.flatMap cellsI, void_size w, ⟨⟨(void_ext w).alloc _, ⟨?_, .inr ⟨w.heap.size, L.length, (L.flatMap cellsI).toArray, rfl, by rw [void_size]; omega, heap_alloc_new w _, Nat.le_refl _, by unfold maxLen; omega, ?_, ?_⟩⟩, by simp, by simp; exact Fr.nil _ _, by simp, fun i a Fi ha hF => ?_⟩, fun q hq => by simp [Value.ownBlock] at hq; omega, by simp⟩⟩
  · show (L.flatMap cellsI).length = _
    rw [hl]; show _ = L.length * 4; omega
  · show (L.flatMap cellsI).toArray.size = L.length * 4
    rw [List.size_toArray, hl]; omega
  · show (L.flatMap cellsI).take (L.length * 4) = L.flatMap cellsI
    rw [List.take_of_length_le (by omega)]
  · have hFi : Fi = [] := (List.mem_replicate.1 (List.mem_of_getElem? hF)).2
    subst hFi
    exact ⟨cellsI a, ⟨rfl, hok a (List.mem_of_getElem? ha), rfl⟩, fun j u hu => cellsI_at L i a j u ha hu⟩

set_option maxHeartbeats 16000000 in
theorem l20Over_any (rb base P : Nat) (w : World) (h : Rdr rb base P w) (hP : P ≤ 1099511620000) (at_ : Int) (ha0 : 0 ≤ at_) (ha1 : at_ ≤ 1000) :
    Calls Tryd.prog 104 #[.pointer (some ⟨rb, 0, none⟩), .int .i64 at_] w fun e w' => (∃ v : Value, e = .returned v ∧ ∃ L : List InsIns, Gro 30 w.heap.size w' v L ∧ L.length ≤ 4 ∧ (∀ i, i ∈ L → InsIn i)) ∧ Rdr rb base (P + 3) w' ∧ Turn [rb] w w' := by
  have hlt := h.lt
  have hlt1 := hlt.1
  have hlt2 := hlt.2
  clear hlt
  go_enter Tryd.func104, Tryd.ntmps104
  go_upto_region 1 with fail
  have he0 : Ext w w := Ext.refl _
  have hs0 : w.heap.size ≤ w.heap.size := Nat.le_refl _
  have hR0 : Rdr rb base P w := h.ext he0
  have hT0 : Turn [rb] w w := Turn.of_ext he0 _
  go_wp2_with fail
  refine (pick_any rb base _ _ (Rdr.hold hR0) (by omega) 40 (by omega) (by omega)).mono ?_
  rintro e w1 ⟨⟨x, rfl, lx, qx⟩, hR1, hy⟩
  have ux : x < 40 := by omega
  clear qx
  have hs1 := hy.size
  try simp at hs1
  have hT1 : Turn [rb] w w1 := (Turn.hold hT0).trans hy
  go_wp2_with fail
  refine (pick_any rb base _ _ (Rdr.hold hR1) (by omega) 5 (by omega) (by omega)).mono ?_
  rintro e w2 ⟨⟨y, rfl, ly, qy⟩, hR2, hy⟩
  have uy : y < 5 := by omega
  clear qy
  have hs2 := hy.size
  try simp at hs2
  have hT2 : Turn [rb] w w2 := (Turn.hold hT1).trans hy
  by_cases hq : 60 < at_ + 3 + y
  · 
    go_wp2_with fail
    refine (pick_any rb base _ _ (Rdr.hold hR2) (by omega) 2 (by omega) (by omega)).mono ?_
    rintro e w3 ⟨⟨k, rfl, lk, qk⟩, hR3, hy⟩
    have uk : k < 2 := by omega
    clear qk
    have hs3 := hy.size
    try simp at hs3
    have hT3 : Turn [rb] w w3 := (Turn.hold hT2).trans hy
    go_wp2
    go_ret
    have hin : ∀ i, i ∈ ([⟨1, 1, 0, x⟩, ⟨9, 0, 1, 0⟩, ⟨1, 1, 0, 60⟩, ⟨10, 0, 1, k⟩] : List InsIns) → InsIn i := by
      intro i hi
      simp at hi
      rcases hi with rfl | rfl | rfl | rfl <;> (unfold InsIn; simp only []; omega)
    exact ⟨⟨_, rfl, [⟨1, 1, 0, x⟩, ⟨9, 0, 1, 0⟩, ⟨1, 1, 0, 60⟩, ⟨10, 0, 1, k⟩], (Gro.lit w3 30 [⟨1, 1, 0, x⟩, ⟨9, 0, 1, 0⟩, ⟨1, 1, 0, 60⟩, ⟨10, 0, 1, k⟩] 4 rfl (by simp) (fun i hi => (hin i hi).ok) _ rfl).down (by omega), by simp, hin⟩, (Rdr.hold hR3).up (by omega), Turn.hold hT3⟩
  · 
    go_wp2_with fail
    refine (pick_any rb base _ _ (Rdr.hold hR2) (by omega) 2 (by omega) (by omega)).mono ?_
    rintro e w3 ⟨⟨k, rfl, lk, qk⟩, hR3, hy⟩
    have uk : k < 2 := by omega
    clear qk
    have hs3 := hy.size
    try simp at hs3
    have hT3 : Turn [rb] w w3 := (Turn.hold hT2).trans hy
    go_wp2
    go_ret
    have hin : ∀ i, i ∈ ([⟨1, 1, 0, x⟩, ⟨9, 0, 1, 0⟩, ⟨1, 1, 0, (at_ + 3 + y)⟩, ⟨10, 0, 1, k⟩] : List InsIns) → InsIn i := by
      intro i hi
      simp at hi
      rcases hi with rfl | rfl | rfl | rfl <;> (unfold InsIn; simp only []; omega)
    exact ⟨⟨_, rfl, [⟨1, 1, 0, x⟩, ⟨9, 0, 1, 0⟩, ⟨1, 1, 0, (at_ + 3 + y)⟩, ⟨10, 0, 1, k⟩], (Gro.lit w3 30 [⟨1, 1, 0, x⟩, ⟨9, 0, 1, 0⟩, ⟨1, 1, 0, (at_ + 3 + y)⟩, ⟨10, 0, 1, k⟩] 4 rfl (by simp) (fun i hi => (hin i hi).ok) _ rfl).down (by omega), by simp, hin⟩, (Rdr.hold hR3).up (by omega), Turn.hold hT3⟩

end Go.Proofs.YtokibcicoomceaaDoor
