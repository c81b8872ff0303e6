/-
  Words are drawn.
-/
import Derived.Test.YtokibcicoomceaaDoorPick
import Derived.Test.YtokibcicoomceaaDoorAppLib
import Derived.Deep.DeepCutAuto
namespace Go.Proofs.YtokibcicoomceaaDoor
open Go.RowKit

set_option linter.unusedVariables false
set_option linter.unusedSimpArgs false
set_option maxRecDepth 100000

theorem Bx.at_ {w : World} {b : Nat} {L : List Int} (h : Bx w b (L.map (Value.int .i64))) {v : Nat} (hv : v < L.length) : w.cell? ⟨b, v, none⟩ = some (.int .i64 L[v]) := h v _ (by rw [List.getElem?_map, List.getElem?_eq_getElem hv]; rfl)

theorem odd_any (rb base P : Nat) (w : World) (h : Rdr rb base P w) (hP : P ≤ 1099511627000) (n : Int) (hn : n ≤ 1099511627776) (hn0 : -1099511627776 ≤ n) :
    Calls Tryd.prog 57 #[.pointer (some ⟨rb, 0, none⟩), .int .i64 n] w fun e w' => (∃ b : Bool, e = .returned (.bool b)) ∧ Rdr rb base (P + 1) w' ∧ Turn [rb] w w' := by
  go_enter Tryd.func57, Tryd.ntmps57
  go_wp2_with fail
  refine (pick_any rb base P w h (by omega) n hn hn0).mono ?_
  rintro e w1 ⟨⟨v, rfl, hv⟩, hR, hT⟩
  go_wp2
  go_ret
  exact ⟨⟨_, rfl⟩, hR, hT⟩

set_option maxHeartbeats 4000000 in
theorem l20Word_any (rb base P : Nat) (w : World) (h : Rdr rb base P w) (hP : P ≤ 1099511627000) : Calls Tryd.prog 86 #[.pointer (some ⟨rb, 0, none⟩)] w fun e w' => (∃ v : Int, e = .returned (.int .i64 v) ∧ 0 ≤ v ∧ v < 65536) ∧ Rdr rb base (P + 3) w' ∧ Turn [rb] w w' := by
  have hlt := h.lt
  go_enter Tryd.func86, Tryd.ntmps86
  go_wp2_with fail
  refine (pick_any rb base P w h (by omega) 4 (by omega) (by omega)).mono ?_
  rintro e w1 ⟨⟨v, rfl, hv0, hv1⟩, hR, hT⟩
  have hv2 : v < 4 := by omega
  clear hv1
  have hc : v = 0 ∨ v = 1 ∨ v = 2 ∨ v = 3 := by omega
  clear hv0 hv2
  have big : (v = 2 ∨ v = 3) → True := fun _ => trivial
  rcases hc with rfl | rfl | hv
  · go_wp2_with fail
    refine (pick_any rb base _ _ (hR.ext Ext.auto) (by omega) 9 (by omega) (by omega)).mono ?_
    rintro e w2 ⟨⟨v, rfl, hv0, hv1⟩, hR2, hT2⟩
    have hlt1 := hR.lt
    have hs2 := hT2.size
    obtain ⟨V, rfl⟩ := Int.eq_ofNat_of_zero_le hv0
    have hV : V < 9 := by omega
    clear hv1 hv0
    have hBt : Bx w2 w1.heap.size (List.map (Value.int .i64) [0, 1, 2, 3, 65535, 32768, 255, 256, 65534]) := hT2.bx (Bx.new w1 #[.int .i64 0, .int .i64 1, .int .i64 2, .int .i64 3, .int .i64 65535, .int .i64 32768, .int .i64 255, .int .i64 256, .int .i64 65534] 3) (by simp) (by simp; omega)
    have hu := hBt.at_ (v := V) hV
    have yt : w1.heap.size < w2.heap.size := by simp at hs2; omega
    have z0 : (0 : Int) ≤ (V : Int) := by omega
    have z1 : (V : Int) < 9 := by omega
    have hb : ∀ x ∈ ([0, 1, 2, 3, 65535, 32768, 255, 256, 65534] : List Int), 0 ≤ x ∧ x < 65536 := by decide
    have hb2 := hb _ (List.getElem_mem (l := [0, 1, 2, 3, 65535, 32768, 255, 256, 65534]) (n := V) hV)
    clear hb
    generalize ([0, 1, 2, 3, 65535, 32768, 255, 256, 65534] : List Int)[V] = u at *
    go_wp2
    go_ret
    exact ⟨⟨u, rfl, hb2.1, hb2.2⟩, hR2.up (by omega), hT.trans (Turn.pre Ext.auto hT2)⟩
  · go_wp2_with fail
    refine (pick_any rb base _ _ hR (by omega) 70 (by omega) (by omega)).mono ?_
    rintro e w2 ⟨⟨v, rfl, hv0, hv1⟩, hR2, hT2⟩
    go_wp2
    go_ret
    exact ⟨⟨v, rfl, hv0, by omega⟩, hR2.up (by omega), hT.trans hT2⟩
  · have q0 : (v == 0) = false := by rcases hv with rfl | rfl <;> rfl
    have q1 : (v == 1) = false := by rcases hv with rfl | rfl <;> rfl
    clear hv
    go_wp2_with fail
    refine (pick_any rb base _ _ hR (by omega) 256 (by omega) (by omega)).mono ?_
    rintro e w2 ⟨⟨a, rfl, ha0, ha1⟩, hR2, hT2⟩
    have ha2 : a < 256 := by omega
    clear ha1
    go_wp2_with fail
    refine (pick_any rb base _ _ hR2 (by omega) 256 (by omega) (by omega)).mono ?_
    rintro e w3 ⟨⟨b, rfl, hb0, hb1⟩, hR3, hT3⟩
    have hb2 : b < 256 := by omega
    clear hb1
    go_wp2
    go_ret
    exact ⟨⟨_, rfl, by omega, by omega⟩, hR3.up (by omega), (hT.trans hT2).trans hT3⟩

end Go.Proofs.YtokibcicoomceaaDoor
