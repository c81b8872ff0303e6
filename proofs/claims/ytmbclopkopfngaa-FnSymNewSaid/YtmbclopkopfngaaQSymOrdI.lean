/-
  SymOrdI
-/
import Derived.Test.YtmbclopkopfngaaQSymOrdS
import Derived.Deep.DeepCutAuto
namespace Go.Proofs.Ytmbclopkopfngaa
open Go.RowKit

set_option linter.unusedVariables false
set_option linter.unusedSimpArgs false
set_option maxRecDepth 100000

theorem listCmp_more {α : Type} {c : α → α → Int} (hc : ∀ a b, c a b = 0 ↔ a = b) {l r : List α} {k : Nat} (hl : k < l.length) (hr : r.length = k) (h : l.take k = r.take k) : listCmp c l r = 1 := by
  rw [listCmp_drop hc k l r h (by omega) (by omega), List.drop_eq_getElem_cons hl, show r.drop k = [] from List.drop_of_length_le (by omega), listCmp]
theorem listCmp_less {α : Type} {c : α → α → Int} (hc : ∀ a b, c a b = 0 ↔ a = b) {l r : List α} {k : Nat} (hl : l.length = k) (hr : k < r.length) (h : l.take k = r.take k) : listCmp c l r = -1 := by
  rw [listCmp_drop hc k l r h (by omega) (by omega), List.drop_eq_getElem_cons hr, show l.drop k = [] from List.drop_of_length_le (by omega), listCmp]
theorem polOrd_eqz (a b : TrmPoly) : (polOrd a b == 0) = decide (a = b) := polOrd_same a b

set_option maxHeartbeats 400000 in
theorem isNaN_any (x : Int) (w : World) : Calls Try.prog 98 #[.int .i64 x] w fun e w' => e = .returned (.bool false) ∧ Ext w w' := by
  have q : (x != x) = false := by simp
  go_enter Try.func98, Try.ntmps98
  go_wp2
  go_ret
  exact ⟨rfl, Ext.auto⟩

set_option maxHeartbeats 1000000 in
theorem cmpInt_any (a b : Int) (w : World) : Calls Try.prog 90 #[.int .i64 a, .int .i64 b] w fun e w' => e = .returned (.int .i64 (cmpI a b)) ∧ Ext w w' := by
  by_cases h1 : a < b
  · have q1 : decide (a < b) = true := by simp [h1]
    have HW := hide (show cmpI a b = -1 by unfold cmpI; rw [if_pos h1])
    go_enter Try.func90, Try.ntmps90
    go_wp2_with fail
    refine (isNaN_any a _).mono ?_
    rintro e w1 ⟨rfl, hx1⟩
    go_wp2_with fail
    refine (isNaN_any b _).mono ?_
    rintro e w2 ⟨rfl, hx2⟩
    go_wp2
    go_ret
    exact ⟨by rw [HW.out]; rfl, Ext.trans (Ext.trans Ext.auto hx1) (Ext.trans Ext.auto hx2)⟩
  · have q1 : decide (a < b) = false := by simp; omega
    by_cases h2 : b < a
    · have q2 : decide (b < a) = true := by simp [h2]
      have HW := hide (show cmpI a b = 1 by unfold cmpI; rw [if_neg (by omega), if_neg (by omega)])
      go_enter Try.func90, Try.ntmps90
      go_wp2_with fail
      refine (isNaN_any a _).mono ?_
      rintro e w1 ⟨rfl, hx1⟩
      go_wp2_with fail
      refine (isNaN_any b _).mono ?_
      rintro e w2 ⟨rfl, hx2⟩
      go_wp2
      go_ret
      exact ⟨by rw [HW.out]; rfl, Ext.trans (Ext.trans Ext.auto hx1) (Ext.trans Ext.auto hx2)⟩
    · have q2 : decide (b < a) = false := by simp; omega
      have HW := hide (show cmpI a b = 0 by unfold cmpI; rw [if_neg (by omega), if_pos (by omega)])
      go_enter Try.func90, Try.ntmps90
      go_wp2_with fail
      refine (isNaN_any a _).mono ?_
      rintro e w1 ⟨rfl, hx1⟩
      go_wp2_with fail
      refine (isNaN_any b _).mono ?_
      rintro e w2 ⟨rfl, hx2⟩
      go_wp2
      go_ret
      exact ⟨by rw [HW.out]; rfl, Ext.trans (Ext.trans Ext.auto hx1) (Ext.trans Ext.auto hx2)⟩

set_option maxHeartbeats 2000000 in
theorem or2_any (a b : Int) (g : Nat) (w : World) (h0 : w.cell? ⟨g, 0, none⟩ = some (.int .i64 a)) (h1 : w.cell? ⟨g, 1, none⟩ = some (.int .i64 b)) (hg : g < w.heap.size) :
    Calls Try.prog 89 #[.slice (some ⟨g, 0, none⟩) 2 2] w fun e w' => e = .returned (.int .i64 (orI a b)) ∧ Ext w w' := by
  go_enter Try.func89, Try.ntmps89
  go_wp2
  go_loopw [5, 8] (fun _ i wr => ∃ k : Nat, k ≤ 2 ∧ i = .int .i64 k ∧ Ext w wr ∧ Hid (0 < k → a = 0) ∧ Hid (1 < k → b = 0)) (fun _ i _ => 2 - (intOf i).toNat)
  case atStart => exact ⟨0, by omega, rfl, Ext.auto, fun h => absurd h (by omega), fun h => absurd h (by omega)⟩
  case round =>
    obtain ⟨k, hk, rfl, he, HA, HB⟩ := hrel
    have c0 := (he.cell hg).trans h0
    have c1 := (he.cell hg).trans h1
    clear h0 h1
    have hk3 : k = 0 ∨ k = 1 ∨ k = 2 := by omega
    rcases hk3 with rfl | rfl | rfl
    · by_cases hz : a = 0
      · have q1 : (a != 0) = false := by simp [hz]
        have HZ := hide hz
        clear hz
        go_wp2_with fail
        go_roundw
        case rel => exact ⟨1, by omega, by go_num, he, fun _ => HZ.out, fun h => absurd h (by omega)⟩
        case measure => (simp [intOf]; try omega)
      · have q1 : (a != 0) = true := by simp [hz]
        have HN := hide (show orI a b = a by unfold orI; rw [if_neg hz])
        clear hz
        go_wp2
        go_ret
        exact ⟨by rw [HN.out]; rfl, he⟩
    · have HA0 := hide (HA.out (by omega))
      by_cases hz : b = 0
      · have q1 : (b != 0) = false := by simp [hz]
        have HZ := hide hz
        clear hz
        go_wp2_with fail
        go_roundw
        case rel => exact ⟨2, by omega, by go_num, he, fun _ => HA0.out, fun _ => HZ.out⟩
        case measure => (simp [intOf]; try omega)
      · have q1 : (b != 0) = true := by simp [hz]
        have HN := hide (show orI a b = b by unfold orI; rw [if_pos HA0.out])
        clear hz
        go_wp2
        go_ret
        exact ⟨by rw [HN.out]; rfl, he⟩
    · have HN := hide (show orI a b = 0 by unfold orI; rw [if_pos (HA.out (by omega))]; exact HB.out (by omega))
      go_wp2
      go_ret
      exact ⟨by rw [HN.out]; rfl, he⟩

set_option maxHeartbeats 4000000 in
theorem slicesCompare_any (a : List Int) (b : List Int) (va vb : Value) (w : World) (ha : Sl w (Old w) va a) (hb : Sl w (Old w) vb b)  :
    Calls Try.prog 91 #[va, vb] w fun e w' => e = .returned (.int .i64 (listCmp cmpI a b)) ∧ Ext w w' := by
  obtain ⟨Aa, ca, rfl, hla, hma⟩ := ha.form
  obtain ⟨Ab, cb, rfl, hlb, hmb⟩ := hb.form
  unfold maxLen at hma hmb
  go_enter Try.func91, Try.ntmps91
  go_wp2
  go_loopw [5, 6, 7, 8, 11] (fun _ _ _ _ i wr => ∃ k : Nat, k ≤ a.length ∧ k ≤ b.length ∧ i = .int .i64 k ∧ Ext w wr ∧ Hid (a.take k = b.take k)) (fun _ _ _ _ i _ => a.length - (intOf i).toNat)
  case atStart => exact ⟨0, by omega, by omega, rfl, Ext.auto, rfl⟩
  case round =>
    obtain ⟨k, hk, hkb, rfl, he, HT⟩ := hrel
    by_cases hlt : k < a.length
    · obtain ⟨ba, offa, rfl, hba, hka, e0⟩ := at_Int (ha.ext he) hlt
      have z0 : (0 : Int) ≤ (k : Int) := by omega
      have z1 : (k : Int) < (a.length : Int) := by omega
      by_cases hlb : k < b.length
      · obtain ⟨bb, offb, rfl, hbb, hkb2, g0⟩ := at_Int (hb.ext he) hlb
        have z2 : (k : Int) < (b.length : Int) := by omega
        have q0 : decide (b.length ≤ k) = false := by simp; omega
        go_wp2_with fail
        refine (cmpInt_any a[k] b[k] _).mono ?_
        rintro e w2 ⟨rfl, hx⟩
        have he2 := he.trans hx
        by_cases hq : cmpI a[k] b[k] = 0
        · have q1 : (cmpI a[k] b[k] != 0) = false := by simp [hq]
          have HN := hide (take_both3 hlt hlb HT.out (cmpI_zero.1 hq))
          clear hq
          go_wp2_with fail
          go_roundw
          case rel => exact ⟨k + 1, by omega, by omega, by go_num, he2, HN.out⟩
          case measure => (simp [intOf]; try omega)
        · have q1 : (cmpI a[k] b[k] != 0) = true := by simp [hq]
          have HN := hide (listCmp_at (c := cmpI) (fun _ _ => cmpI_zero) hlt hlb HT.out hq)
          clear hq
          go_wp2
          go_ret
          exact ⟨by rw [HN.out]; rfl, he2⟩
      · have q0 : decide (b.length ≤ k) = true := by simp; omega
        have HN := hide (listCmp_more (c := cmpI) (fun _ _ => cmpI_zero) hlt (show b.length = k by omega) HT.out)
        go_wp2
        go_ret
        exact ⟨by rw [HN.out]; rfl, he⟩
    · obtain rfl : k = a.length := by omega
      by_cases hlb : a.length < b.length
      · have q0 : decide (a.length < b.length) = true := by simp [hlb]
        have HN := hide (listCmp_less (c := cmpI) (fun _ _ => cmpI_zero) rfl hlb HT.out)
        go_wp2
        go_ret
        exact ⟨by rw [HN.out]; rfl, he⟩
      · have q0 : decide (a.length < b.length) = false := by simp; omega
        have HN := hide (listCmp_all (c := cmpI) (fun _ _ => cmpI_zero) (show a.length = b.length by omega) HT.out)
        go_wp2
        go_ret
        exact ⟨by rw [HN.out]; rfl, he⟩

set_option maxHeartbeats 2000000 in
theorem implAtomsOrd_any (a : List Int) (b : List Int) (va vb : Value) (w : World) (ha : Sl w (Old w) va a) (hb : Sl w (Old w) vb b)  :
    Calls Try.prog 73 #[va, vb] w fun e w' => e = .returned (.int .i64 (atomsOrd a b)) ∧ Ext w w' := by
  obtain ⟨Aa, ca, rfl, hla, hma⟩ := ha.form
  obtain ⟨Ab, cb, rfl, hlb, hmb⟩ := hb.form
  unfold maxLen at hma hmb
  have HV := hide (show atomsOrd a b = orI (cmpI (a.length : Int) (b.length : Int)) (listCmp cmpI a b) from rfl)
  go_enter Try.func73, Try.ntmps73
  go_wp2_with fail
  refine (cmpInt_any (a.length : Int) (b.length : Int) _).mono ?_
  rintro e w1 ⟨rfl, hy⟩
  have hx1 : Ext w w1 := Ext.trans Ext.auto hy
  clear hy
  go_wp2_with fail
  refine (slicesCompare_any a b _ _ _ (ha.ext (Ext.trans hx1 Ext.auto)) (hb.ext (Ext.trans hx1 Ext.auto))).mono ?_
  rintro e w2 ⟨rfl, hy⟩
  have hx2 : Ext w1 w2 := Ext.trans Ext.auto hy
  clear hy
  go_wp2_with fail
  refine (or2_any (cmpI (a.length : Int) (b.length : Int)) (listCmp cmpI a b) _ _ (by simp) (by simp) (by simp)).mono ?_
  rintro e w3 ⟨rfl, hy⟩
  have hx3 : Ext w2 w3 := Ext.trans Ext.auto hy
  clear hy
  go_wp2
  go_ret
  exact ⟨by rw [HV.out]; rfl, (hx1.trans hx2).trans (Ext.trans hx3 Ext.auto)⟩

set_option maxHeartbeats 16000000 in
theorem implPolOrder_any (a : TrmPoly) (b : TrmPoly) (va1 vb1 : Value) (w : World) (ha1 : Sl w (Old w) va1 a.monos) (hb1 : Sl w (Old w) vb1 b.monos)  :
    Calls Try.prog 97 #[.agg #[va1], .agg #[vb1]] w fun e w' => e = .returned (.int .i64 (polOrd a b)) ∧ Ext w w' := by
  obtain ⟨Aa1, ca1, rfl, hla1, hma1⟩ := ha1.form
  obtain ⟨Ab1, cb1, rfl, hlb1, hmb1⟩ := hb1.form
  unfold maxLen at hma1 hmb1
  go_enter Try.func97, Try.ntmps97
  go_upto_region 1 with fail
  have he0 : Ext w ((w.alloc (Obj.cells #[(.slice Aa1 a.monos.length ca1)] 28)).alloc (Obj.cells #[(.slice Ab1 b.monos.length cb1)] 28)) := (Ext.auto)
  have hs0 : w.heap.size + 2 ≤ (((w.alloc (Obj.cells #[(.slice Aa1 a.monos.length ca1)] 28)).alloc (Obj.cells #[(.slice Ab1 b.monos.length cb1)] 28))).heap.size := by simp
  have hq0 := hide (show (((w.alloc (Obj.cells #[(.slice Aa1 a.monos.length ca1)] 28)).alloc (Obj.cells #[(.slice Ab1 b.monos.length cb1)] 28))).heap.size = w.heap.size + 2 by simp)
  have hBa_0 : Bx ((w.alloc (Obj.cells #[(.slice Aa1 a.monos.length ca1)] 28)).alloc (Obj.cells #[(.slice Ab1 b.monos.length cb1)] 28)) (w.heap.size) [(.slice Aa1 a.monos.length ca1)] := (by have := (Bx.alloc (Bx.new w #[(.slice Aa1 a.monos.length ca1)] 28) (by simp) #[(.slice Ab1 b.monos.length cb1)] 28); simpa using this)
  have hFa_0 : ∀ oo, (((w.alloc (Obj.cells #[(.slice Aa1 a.monos.length ca1)] 28)).alloc (Obj.cells #[(.slice Ab1 b.monos.length cb1)] 28))).frozen? ⟨w.heap.size, oo, none⟩ = false := fun oo => by simp
  have hBb_0 : Bx ((w.alloc (Obj.cells #[(.slice Aa1 a.monos.length ca1)] 28)).alloc (Obj.cells #[(.slice Ab1 b.monos.length cb1)] 28)) (w.heap.size + 1) [(.slice Ab1 b.monos.length cb1)] := (by have := (Bx.new (w.alloc (Obj.cells #[(.slice Aa1 a.monos.length ca1)] 28)) #[(.slice Ab1 b.monos.length cb1)] 28); simpa using this)
  have hFb_0 : ∀ oo, (((w.alloc (Obj.cells #[(.slice Aa1 a.monos.length ca1)] 28)).alloc (Obj.cells #[(.slice Ab1 b.monos.length cb1)] 28))).frozen? ⟨w.heap.size + 1, oo, none⟩ = false := fun oo => by simp
  generalize ((w.alloc (Obj.cells #[(.slice Aa1 a.monos.length ca1)] 28)).alloc (Obj.cells #[(.slice Ab1 b.monos.length cb1)] 28)) = w0 at *
  have ya : w.heap.size < w0.heap.size := by omega
  have xa0 : w0.cell? ⟨w.heap.size, 0, none⟩ = some ((.slice Aa1 a.monos.length ca1)) := hBa_0 0 _ rfl
  have yb : w.heap.size + 1 < w0.heap.size := by omega
  have xb0 : w0.cell? ⟨w.heap.size + 1, 0, none⟩ = some ((.slice Ab1 b.monos.length cb1)) := hBb_0 0 _ rfl
  go_wp2_with fail
  clear xa0 ya
  clear xb0 yb
  refine (cmpInt_any (a.monos.length : Int) (b.monos.length : Int) _).mono ?_
  rintro e w1 ⟨rfl, hy⟩
  have hx1 : Ext w0 w1 := Ext.trans (Ext.auto) hy
  have hs1 := hx1.size
  have he1 : Ext w w1 := he0.trans hx1
  have hBa_1 : Bx w1 (w.heap.size) [(.slice Aa1 a.monos.length ca1)] := hx1.bx hBa_0 (by omega)
  have hFa_1 : ∀ oo, w1.frozen? ⟨w.heap.size, oo, none⟩ = false := fun oo => (hx1.frozen (by omega)).trans (hFa_0 oo)
  have hBb_1 : Bx w1 (w.heap.size + 1) [(.slice Ab1 b.monos.length cb1)] := hx1.bx hBb_0 (by omega)
  have hFb_1 : ∀ oo, w1.frozen? ⟨w.heap.size + 1, oo, none⟩ = false := fun oo => (hx1.frozen (by omega)).trans (hFb_0 oo)
  clear hBa_0 hFa_0 hBb_0 hFb_0
  clear hy
  by_cases hl : a.monos.length = b.monos.length
  rotate_left
  · have hn : (cmpI (a.monos.length : Int) (b.monos.length : Int) != 0) = true := by simp; intro e; have := cmpI_zero.1 e; omega
    have HV := hide (show polOrd a b = cmpI (a.monos.length : Int) (b.monos.length : Int) from sizeCmp_len hl)
    clear hl
    go_wp2
    go_ret
    exact ⟨by rw [HV.out]; rfl, Ext.hold he1⟩
  have hn : (cmpI (a.monos.length : Int) (b.monos.length : Int) != 0) = false := by simp; exact cmpI_zero.2 (by omega)
  have HL := hide hl
  have HV := hide (show polOrd a b = listCmp monoOrd a.monos b.monos from sizeCmp_same hl)
  clear hl
  have ya : w.heap.size < w1.heap.size := by omega
  have xa0 : w1.cell? ⟨w.heap.size, 0, none⟩ = some ((.slice Aa1 a.monos.length ca1)) := hBa_1 0 _ rfl
  have yb : w.heap.size + 1 < w1.heap.size := by omega
  have xb0 : w1.cell? ⟨w.heap.size + 1, 0, none⟩ = some ((.slice Ab1 b.monos.length cb1)) := hBb_1 0 _ rfl
  go_wp2_with fail
  clear xa0 ya
  clear xb0 yb
  go_loopw [6, 7, 8, 22] (fun _ _ _ i wr => ∃ k : Nat, k ≤ a.monos.length ∧ i = .int .i64 k ∧ Ext w1 wr ∧ Hid (a.monos.take k = b.monos.take k)) (fun _ _ _ i _ => a.monos.length - (intOf i).toNat)
  case atStart => exact ⟨0, by omega, rfl, Ext.refl _, rfl⟩
  case round =>
    obtain ⟨k, hk, rfl, hx0, HT⟩ := hrel
    obtain ⟨v1, hw1⟩ : ∃ v1 : World, v1 = wr := ⟨_, rfl⟩
    subst hw1
    have hz1 := hx0.size
    have he := he1.trans hx0
    have xb0 : v1.cell? ⟨w.heap.size + 1, 0, none⟩ = some ((.slice Ab1 b.monos.length cb1)) := (hx0.bx hBb_1 (by omega)) 0 _ rfl
    have yb : w.heap.size + 1 < v1.heap.size := by omega
    by_cases hlt : k < a.monos.length
    · have hlt' : k < b.monos.length := by have := HL.out; omega
      obtain ⟨ea, offa, va, rfl, hea, hka, hva, e0, e1⟩ := at_TrmMono (ha1.ext he) hlt
      obtain ⟨eb, offb, vb, rfl, heb, hkb, hvb, g0, g1⟩ := at_TrmMono (hb1.ext he) hlt'
      obtain ⟨Ava, cva, rfl, -, -⟩ := hva.form
      obtain ⟨Avb, cvb, rfl, -, -⟩ := hvb.form
      have hea1 : ea < v1.heap.size := hea
      have heb1 : eb < v1.heap.size := heb
      have z0 : (0 : Int) ≤ (k : Int) := by omega
      have z1 : (k : Int) < (a.monos.length : Int) := by omega
      have z2 : (k : Int) < (b.monos.length : Int) := by omega
      go_upto_region 7 with fail
      have hxm : Ext v1 (v1.alloc (.cells #[.int .i64 a.monos[k].coef, .slice Ava a.monos[k].atoms.length cva] 79)) := (Ext.refl _).alloc _
      have hsm : v1.heap.size + 1 ≤ (v1.alloc (.cells #[.int .i64 a.monos[k].coef, .slice Ava a.monos[k].atoms.length cva] 79)).heap.size := by simp
      have hBm : Bx (v1.alloc (.cells #[.int .i64 a.monos[k].coef, .slice Ava a.monos[k].atoms.length cva] 79)) v1.heap.size [.int .i64 a.monos[k].coef, .slice Ava a.monos[k].atoms.length cva] := Bx.new v1 #[.int .i64 a.monos[k].coef, .slice Ava a.monos[k].atoms.length cva] 79
      replace xb0 := (hxm.cell yb).trans xb0
      replace g0 := (hxm.cell heb1).trans g0
      replace g1 := (hxm.cell heb1).trans g1
      have pa := hva.ext hxm
      have pb := hvb.ext hxm
      clear hva hvb e0 e1
      generalize v1.alloc (.cells #[.int .i64 a.monos[k].coef, .slice Ava a.monos[k].atoms.length cva] 79) = v2 at *
      have m0 := hBm 0 _ rfl
      have m1 := hBm 1 _ rfl
      clear hBm
      have yb2 : w.heap.size + 1 < v2.heap.size := by omega
      have heb2 : eb < v2.heap.size := by omega
      have ym2 : v1.heap.size < v2.heap.size := by omega
      have hS : ∀ w', Ext v2 w' → ∀ bb oo, bb < v2.heap.size → w'.cell? ⟨bb, oo, none⟩ = v2.cell? ⟨bb, oo, none⟩ := fun w' hx bb oo hb => hx.cell hb
      refine wp_region_plan (fun w' => Ext v2 w') 17 (.float 0 (.float 1 (.float 2 (.float 3 (.float 4 (.float 5 (.float 6 (.float 7 (.float 9 (.float 10 (.float 11 (.float 12 (.float 13 (.float 14 (.float 15 (.float 16 (.chain 8 (.tail 17)))))))))))))))))) (by kernel_rfl) (by kernel_rfl) (Ext.refl _).drew ?_
      iterate 16 ((refine Plan.float_step (v := ?_) rfl (by rfl) (fun _ _ _ h => h) (fun w' hSw => ?_) ?_; rotate_left; · (go_simp; try with_reducible rfl)); (try simp only [Act.put, List.setIfInBounds_toArray, List.set_cons_zero, List.set_cons_succ]))
      refine Plan.chain_step rfl (fun K hK => ?_)
      go_simp
      refine (implAtomsOrd_any a.monos[k].atoms b.monos[k].atoms _ _ _ (pa.ext Ext.auto) (pb.ext Ext.auto)).mono ?_
      rintro e v3 ⟨rfl, hy⟩
      refine hK.out _ _ (Ext.trans Ext.auto hy) ?_
      clear hK
      (try simp only [Act.put, List.setIfInBounds_toArray, List.set_cons_zero, List.set_cons_succ])
      have hx3 : Ext v2 v3 := Ext.trans Ext.auto hy
      clear hy
      refine Plan.tail_step ?_
      simp only [List.drop_succ_cons, List.drop_zero]
      clear hS
      go_wp2_with fail
      refine (cmpInt_any a.monos[k].coef b.monos[k].coef _).mono ?_
      rintro e v4 ⟨rfl, hy⟩
      have hx4 : Ext v3 v4 := Ext.trans Ext.auto hy
      clear hy
      go_wp2_with fail
      refine (or2_any (atomsOrd a.monos[k].atoms b.monos[k].atoms) (cmpI a.monos[k].coef b.monos[k].coef) _ _ (by simp) (by simp) (by simp)).mono ?_
      rintro e v5 ⟨rfl, hy⟩
      have hx5 : Ext v4 v5 := Ext.trans Ext.auto hy
      clear hy
      have hx9 : Ext w1 v5 := (hx0.trans hxm).trans ((hx3.trans hx4).trans hx5)
      clear hx3 hx4 hx5
      have HM := hide (show monoOrd a.monos[k] b.monos[k] = orI (atomsOrd a.monos[k].atoms b.monos[k].atoms) (cmpI a.monos[k].coef b.monos[k].coef) from rfl)
      by_cases hq : orI (atomsOrd a.monos[k].atoms b.monos[k].atoms) (cmpI a.monos[k].coef b.monos[k].coef) = 0
      · have q1 : (orI (atomsOrd a.monos[k].atoms b.monos[k].atoms) (cmpI a.monos[k].coef b.monos[k].coef) != 0) = false := by simp [hq]
        have HN := hide (take_both3 hlt hlt' HT.out ((monoOrd_zero _ _).1 (HM.out.trans hq)))
        clear hq
        go_wp2_with fail
        go_roundw
        case rel => exact ⟨k + 1, by omega, by go_num, hx9, HN.out⟩
        case measure => (simp [intOf]; try omega)
      · have q1 : (orI (atomsOrd a.monos[k].atoms b.monos[k].atoms) (cmpI a.monos[k].coef b.monos[k].coef) != 0) = true := by simp [hq]
        have HN := hide (listCmp_at (c := monoOrd) monoOrd_zero hlt hlt' HT.out (by rw [HM.out]; exact hq))
        clear hq
        go_wp2
        go_ret
        exact ⟨by rw [HV.out, HN.out, HM.out]; rfl, he1.trans hx9⟩
    · 
      obtain rfl : k = a.monos.length := by omega
      have HN := hide (listCmp_all (c := monoOrd) monoOrd_zero HL.out HT.out)
      go_wp2
      go_ret
      exact ⟨by rw [HV.out, HN.out]; rfl, he⟩

set_option maxHeartbeats 4000000 in
theorem samePol_any (a : TrmPoly) (b : TrmPoly) (va1 vb1 : Value) (w : World) (ha1 : Sl w (Old w) va1 a.monos) (hb1 : Sl w (Old w) vb1 b.monos)  :
    Calls Try.prog 85 #[.agg #[va1], .agg #[vb1]] w fun e w' => e = .returned (.bool (decide (a = b))) ∧ Ext w w' := by
  obtain ⟨Aa1, ca1, rfl, hla1, hma1⟩ := ha1.form
  obtain ⟨Ab1, cb1, rfl, hlb1, hmb1⟩ := hb1.form
  go_enter Try.func85, Try.ntmps85
  go_upto_region 1 with fail
  have he0 : Ext w ((w.alloc (Obj.cells #[(.slice Aa1 a.monos.length ca1)] 28)).alloc (Obj.cells #[(.slice Ab1 b.monos.length cb1)] 28)) := (Ext.auto)
  have hs0 : w.heap.size + 2 ≤ (((w.alloc (Obj.cells #[(.slice Aa1 a.monos.length ca1)] 28)).alloc (Obj.cells #[(.slice Ab1 b.monos.length cb1)] 28))).heap.size := by simp
  have hq0 := hide (show (((w.alloc (Obj.cells #[(.slice Aa1 a.monos.length ca1)] 28)).alloc (Obj.cells #[(.slice Ab1 b.monos.length cb1)] 28))).heap.size = w.heap.size + 2 by simp)
  have hBa_0 : Bx ((w.alloc (Obj.cells #[(.slice Aa1 a.monos.length ca1)] 28)).alloc (Obj.cells #[(.slice Ab1 b.monos.length cb1)] 28)) (w.heap.size) [(.slice Aa1 a.monos.length ca1)] := (by have := (Bx.alloc (Bx.new w #[(.slice Aa1 a.monos.length ca1)] 28) (by simp) #[(.slice Ab1 b.monos.length cb1)] 28); simpa using this)
  have hFa_0 : ∀ oo, (((w.alloc (Obj.cells #[(.slice Aa1 a.monos.length ca1)] 28)).alloc (Obj.cells #[(.slice Ab1 b.monos.length cb1)] 28))).frozen? ⟨w.heap.size, oo, none⟩ = false := fun oo => by simp
  have hBb_0 : Bx ((w.alloc (Obj.cells #[(.slice Aa1 a.monos.length ca1)] 28)).alloc (Obj.cells #[(.slice Ab1 b.monos.length cb1)] 28)) (w.heap.size + 1) [(.slice Ab1 b.monos.length cb1)] := (by have := (Bx.new (w.alloc (Obj.cells #[(.slice Aa1 a.monos.length ca1)] 28)) #[(.slice Ab1 b.monos.length cb1)] 28); simpa using this)
  have hFb_0 : ∀ oo, (((w.alloc (Obj.cells #[(.slice Aa1 a.monos.length ca1)] 28)).alloc (Obj.cells #[(.slice Ab1 b.monos.length cb1)] 28))).frozen? ⟨w.heap.size + 1, oo, none⟩ = false := fun oo => by simp
  generalize ((w.alloc (Obj.cells #[(.slice Aa1 a.monos.length ca1)] 28)).alloc (Obj.cells #[(.slice Ab1 b.monos.length cb1)] 28)) = w0 at *
  have ya : w.heap.size < w0.heap.size := by omega
  have xa0 : w0.cell? ⟨w.heap.size, 0, none⟩ = some ((.slice Aa1 a.monos.length ca1)) := hBa_0 0 _ rfl
  have yb : w.heap.size + 1 < w0.heap.size := by omega
  have xb0 : w0.cell? ⟨w.heap.size + 1, 0, none⟩ = some ((.slice Ab1 b.monos.length cb1)) := hBb_0 0 _ rfl
  go_wp2_with fail
  clear xa0 ya
  clear xb0 yb
  refine (implPolOrder_any a b _ _ _ (ha1.ext (Ext.trans he0 Ext.auto)) (hb1.ext (Ext.trans he0 Ext.auto))).mono ?_
  rintro e w1 ⟨rfl, hy⟩
  have hx1 : Ext w0 w1 := Ext.trans (Ext.auto) hy
  have hs1 := hx1.size
  have he1 : Ext w w1 := he0.trans hx1
  have hBa_1 : Bx w1 (w.heap.size) [(.slice Aa1 a.monos.length ca1)] := hx1.bx hBa_0 (by omega)
  have hFa_1 : ∀ oo, w1.frozen? ⟨w.heap.size, oo, none⟩ = false := fun oo => (hx1.frozen (by omega)).trans (hFa_0 oo)
  have hBb_1 : Bx w1 (w.heap.size + 1) [(.slice Ab1 b.monos.length cb1)] := hx1.bx hBb_0 (by omega)
  have hFb_1 : ∀ oo, w1.frozen? ⟨w.heap.size + 1, oo, none⟩ = false := fun oo => (hx1.frozen (by omega)).trans (hFb_0 oo)
  clear hBa_0 hFa_0 hBb_0 hFb_0
  clear hy
  skip
  go_wp2
  go_ret
  exact ⟨by rw [← polOrd_eqz]; rfl, Ext.hold he1⟩

end Go.Proofs.Ytmbclopkopfngaa
