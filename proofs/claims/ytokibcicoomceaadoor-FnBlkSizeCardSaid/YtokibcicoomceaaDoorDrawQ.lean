/-
  A word, or a number that is none, is drawn.
-/
import Derived.Test.YtokibcicoomceaaDoorDrawO
import Derived.Deep.DeepCutAuto
namespace Go.Proofs.YtokibcicoomceaaDoor
open Go.RowKit

set_option linter.unusedVariables false
set_option linter.unusedSimpArgs false
set_option maxRecDepth 100000

set_option maxHeartbeats 16000000 in
theorem l20WordOr_any (rb base P : Nat) (w : World) (h : Rdr rb base P w) (hP : P ≤ 1099511620000) (n : Int) (hn0 : 0 ≤ n) (hn : n ≤ 1000) :
    Calls Tryd.prog 58 #[.pointer (some ⟨rb, 0, none⟩), .int .i64 n] w fun e w' => (∃ v : Int, e = .returned (.int .i64 v) ∧ -9223372036854775808 ≤ v ∧ v < 9223372036854775808) ∧ Rdr rb base (P + 4) w' ∧ Turn [rb] w w' := by
  have hlt := h.lt
  have hlt1 := hlt.1
  have hlt2 := hlt.2
  clear hlt
  go_enter Tryd.func58, Tryd.ntmps58
  go_upto_region 1 with fail
  have he0 : Ext w w := Ext.refl _
  have hs0 : w.heap.size ≤ w.heap.size := Nat.le_refl _
  have hR0 : Rdr rb base P w := h.ext he0
  have hT0 : Turn [rb] w w := Turn.of_ext he0 _
  go_wp2_with fail
  refine (odd_any rb base _ _ (Rdr.hold hR0) (by omega) n (by omega) (by omega)).mono ?_
  rintro e w1 ⟨⟨b, rfl⟩, hR1, hy⟩
  have hs1 := hy.size
  have hT1 : Turn [rb] w w1 := (Turn.hold hT0).trans hy
  clear hy hR0 hT0
  cases b
  · 
    go_wp2_with fail
    refine (l20Word_any rb base _ _ hR1 (by omega)).mono ?_
    rintro e w2 ⟨⟨v, rfl, lv, uv⟩, hR2, hy⟩
    go_wp2
    go_ret
    exact ⟨⟨v, rfl, by omega, by omega⟩, hR2.up (by omega), hT1.trans hy⟩
  · 
    go_wp2_with fail
    refine (pick_any rb base _ _ (Rdr.hold hR1) (by omega) 6 (by omega) (by omega)).mono ?_
    rintro e w2 ⟨⟨ik, rfl, lik, qik⟩, hR2, hy⟩
    have uik : ik < 6 := by omega
    clear qik
    have hBt := hy.bx (Bx.new w1 #[.int .i64 (-1), .int .i64 65536, .int .i64 9223372036854775807, .int .i64 (-9223372036854775808), .int .i64 (-65536), .int .i64 131072] 3) (by simp) (by simp; omega)
    have yt : w1.heap.size < w2.heap.size := by have := hy.size; simp at this; omega
    have hs2 := hy.size
    try simp at hs2
    have hT2 : Turn [rb] w w2 := (Turn.hold hT1).trans hy
    obtain ⟨Vk, rfl⟩ := Int.eq_ofNat_of_zero_le lik
    have hVk : Vk < 6 := by omega
    have hBt : Bx w2 w1.heap.size (List.map (Value.int .i64) [(-1), 65536, 9223372036854775807, (-9223372036854775808), (-65536), 131072]) := hBt
    have ek := hBt.at_ (v := Vk) hVk
    have hb : ∀ zz ∈ ([(-1), 65536, 9223372036854775807, (-9223372036854775808), (-65536), 131072] : List Int), -9223372036854775808 ≤ zz ∧ zz < 9223372036854775808 := by intro zz hzz; simp at hzz; omega
    have hb2 := hb _ (List.getElem_mem (l := [(-1), 65536, 9223372036854775807, (-9223372036854775808), (-65536), 131072]) (n := Vk) hVk)
    clear hb hBt
    generalize ([(-1), 65536, 9223372036854775807, (-9223372036854775808), (-65536), 131072] : List Int)[Vk] = k at *
    have lk := hb2.1
    have uk := hb2.2
    clear hb2
    have z0 : (0 : Int) ≤ (Vk : Int) := by omega
    have z1 : (Vk : Int) < 6 := by omega
    go_wp2
    go_ret
    exact ⟨⟨k, rfl, lk, uk⟩, (Rdr.hold hR2).up (by omega), Turn.hold hT2⟩

end Go.Proofs.YtokibcicoomceaaDoor
