/-
  ValI
-/
import Derived.Test.YtmbclopkopfngaaQEvalI
import Derived.Test.YtmbclopkopfngaaQTabF
import Derived.Test.YtmbclopkopfngaaQNewP
import Derived.Test.YtmbclopkopfngaaQDoC
import Derived.Test.YtmbclopkopfngaaQRead
import Derived.Deep.DeepCutAuto
import Derived.Deep.CutBlock
namespace Go.Proofs.Ytmbclopkopfngaa
open Go.RowKit

set_option linter.unusedVariables false
set_option linter.unusedSimpArgs false
set_option maxRecDepth 100000

set_option maxHeartbeats 32000000 in
theorem implTabVals_any (t : TabTab) (regs : List Int) (loads : List Int) (ins : List Int) (vt1 vregs vloads vins : Value) (w : World) (ht1 : Sl w (Old w) vt1 t.atoms) (hregs : Sl w (Old w) vregs regs) (hloads : Sl w (Old w) vloads loads) (hins : Sl w (Old w) vins ins) (hn : Bulk.blk t ≤ 4194304) :
    Calls Try.prog 13 #[.agg #[vt1], vregs, vloads, vins] w fun e w' => (∃ r F, e = .returned r ∧ OwnSl w' r (tabVals t regs loads ins) F ∧ Fr w w' F) ∧ Ext w w' := by
  obtain ⟨At1, ct1, rfl, hlt1, hmt1⟩ := ht1.form
  obtain ⟨Aregs, cregs, rfl, hlregs, hmregs⟩ := hregs.form
  obtain ⟨Aloads, cloads, rfl, hlloads, hmloads⟩ := hloads.form
  obtain ⟨Ains, cins, rfl, hlins, hmins⟩ := hins.form
  unfold maxLen at hmt1 hmregs hmloads hmins
  obtain ⟨i0a, hi_, hz0, hz1, hz2⟩ := info_parts infInt
  have HIa := hide hi_
  have HZ0a := hide hz0
  have HZ1a := hide hz1
  have HZ2a := hide hz2
  clear hi_ hz0 hz1 hz2
  cases hok : tabOkB t
  · 
    have HV := hide (show tabVals t regs loads ins = [] by unfold tabVals; rw [hok]; simp)
    go_enter Try.func13, Try.ntmps13
    go_upto_region 1 with fail
    have he0 : Ext w (w.alloc (Obj.cells #[(.slice At1 t.atoms.length ct1)] 25)) := (Ext.auto)
    have hs0 : w.heap.size + 1 ≤ ((w.alloc (Obj.cells #[(.slice At1 t.atoms.length ct1)] 25))).heap.size := by simp
    have hq0 := hide (show ((w.alloc (Obj.cells #[(.slice At1 t.atoms.length ct1)] 25))).heap.size = w.heap.size + 1 by simp)
    have hBt_0 : Bx (w.alloc (Obj.cells #[(.slice At1 t.atoms.length ct1)] 25)) (w.heap.size) [(.slice At1 t.atoms.length ct1)] := (by have := (Bx.new w #[(.slice At1 t.atoms.length ct1)] 25); simpa using this)
    have hFt_0 : ∀ oo, ((w.alloc (Obj.cells #[(.slice At1 t.atoms.length ct1)] 25))).frozen? ⟨w.heap.size, oo, none⟩ = false := fun oo => by simp
    generalize (w.alloc (Obj.cells #[(.slice At1 t.atoms.length ct1)] 25)) = w0 at *
    have yt : w.heap.size < w0.heap.size := by omega
    have xt0 : w0.cell? ⟨w.heap.size, 0, none⟩ = some ((.slice At1 t.atoms.length ct1)) := hBt_0 0 _ rfl
    have ft := hFt_0
    go_wp2_with fail
    refine (implTabOk_any t _ _ (ht1.ext (Ext.trans he0 Ext.auto)) hn).mono ?_
    rintro e w1 ⟨rfl, hy⟩
    simp only [hok]
    clear xt0 yt
    clear ft
    have hx1 : Ext w0 w1 := Ext.trans (Ext.auto) hy
    have hs1 := hx1.size
    have he1 : Ext w w1 := he0.trans hx1
    have hBt_1 : Bx w1 (w.heap.size) [(.slice At1 t.atoms.length ct1)] := hx1.bx hBt_0 (by omega)
    have hFt_1 : ∀ oo, w1.frozen? ⟨w.heap.size, oo, none⟩ = false := fun oo => (hx1.frozen (by omega)).trans (hFt_0 oo)
    clear hBt_0 hFt_0
    clear hy
    go_wp2
    go_ret
    exact ⟨⟨_, [], rfl, by rw [HV.out]; exact OwnSl.nil _, Fr.nil _ _⟩, Ext.hold he1⟩
  · 
    cases hw1 : wordsB regs
    · 
      have HV := hide (show tabVals t regs loads ins = [] by unfold tabVals; rw [hok, hw1]; simp)
      go_enter Try.func13, Try.ntmps13
      go_upto_region 1 with fail
      have he0 : Ext w (w.alloc (Obj.cells #[(.slice At1 t.atoms.length ct1)] 25)) := (Ext.auto)
      have hs0 : w.heap.size + 1 ≤ ((w.alloc (Obj.cells #[(.slice At1 t.atoms.length ct1)] 25))).heap.size := by simp
      have hq0 := hide (show ((w.alloc (Obj.cells #[(.slice At1 t.atoms.length ct1)] 25))).heap.size = w.heap.size + 1 by simp)
      have hBt_0 : Bx (w.alloc (Obj.cells #[(.slice At1 t.atoms.length ct1)] 25)) (w.heap.size) [(.slice At1 t.atoms.length ct1)] := (by have := (Bx.new w #[(.slice At1 t.atoms.length ct1)] 25); simpa using this)
      have hFt_0 : ∀ oo, ((w.alloc (Obj.cells #[(.slice At1 t.atoms.length ct1)] 25))).frozen? ⟨w.heap.size, oo, none⟩ = false := fun oo => by simp
      generalize (w.alloc (Obj.cells #[(.slice At1 t.atoms.length ct1)] 25)) = w0 at *
      have yt : w.heap.size < w0.heap.size := by omega
      have xt0 : w0.cell? ⟨w.heap.size, 0, none⟩ = some ((.slice At1 t.atoms.length ct1)) := hBt_0 0 _ rfl
      have ft := hFt_0
      go_wp2_with fail
      refine (implTabOk_any t _ _ (ht1.ext (Ext.trans he0 Ext.auto)) hn).mono ?_
      rintro e w1 ⟨rfl, hy⟩
      simp only [hok]
      clear xt0 yt
      clear ft
      have hx1 : Ext w0 w1 := Ext.trans (Ext.auto) hy
      have hs1 := hx1.size
      have he1 : Ext w w1 := he0.trans hx1
      have hBt_1 : Bx w1 (w.heap.size) [(.slice At1 t.atoms.length ct1)] := hx1.bx hBt_0 (by omega)
      have hFt_1 : ∀ oo, w1.frozen? ⟨w.heap.size, oo, none⟩ = false := fun oo => (hx1.frozen (by omega)).trans (hFt_0 oo)
      clear hBt_0 hFt_0
      clear hy
      go_wp2_with fail
      refine (implWords_any regs _ _ (hregs.ext (Ext.trans he1 Ext.auto))).mono ?_
      rintro e w' ⟨rfl, rfl⟩
      simp only [hw1]
      go_wp2
      go_ret
      exact ⟨⟨_, [], rfl, by rw [HV.out]; exact OwnSl.nil _, Fr.nil _ _⟩, Ext.hold he1⟩
    · 
      cases hw2 : wordsB loads
      · 
        have HV := hide (show tabVals t regs loads ins = [] by unfold tabVals; rw [hok, hw1, hw2]; simp)
        go_enter Try.func13, Try.ntmps13
        go_upto_region 1 with fail
        have he0 : Ext w (w.alloc (Obj.cells #[(.slice At1 t.atoms.length ct1)] 25)) := (Ext.auto)
        have hs0 : w.heap.size + 1 ≤ ((w.alloc (Obj.cells #[(.slice At1 t.atoms.length ct1)] 25))).heap.size := by simp
        have hq0 := hide (show ((w.alloc (Obj.cells #[(.slice At1 t.atoms.length ct1)] 25))).heap.size = w.heap.size + 1 by simp)
        have hBt_0 : Bx (w.alloc (Obj.cells #[(.slice At1 t.atoms.length ct1)] 25)) (w.heap.size) [(.slice At1 t.atoms.length ct1)] := (by have := (Bx.new w #[(.slice At1 t.atoms.length ct1)] 25); simpa using this)
        have hFt_0 : ∀ oo, ((w.alloc (Obj.cells #[(.slice At1 t.atoms.length ct1)] 25))).frozen? ⟨w.heap.size, oo, none⟩ = false := fun oo => by simp
        generalize (w.alloc (Obj.cells #[(.slice At1 t.atoms.length ct1)] 25)) = w0 at *
        have yt : w.heap.size < w0.heap.size := by omega
        have xt0 : w0.cell? ⟨w.heap.size, 0, none⟩ = some ((.slice At1 t.atoms.length ct1)) := hBt_0 0 _ rfl
        have ft := hFt_0
        go_wp2_with fail
        refine (implTabOk_any t _ _ (ht1.ext (Ext.trans he0 Ext.auto)) hn).mono ?_
        rintro e w1 ⟨rfl, hy⟩
        simp only [hok]
        clear xt0 yt
        clear ft
        have hx1 : Ext w0 w1 := Ext.trans (Ext.auto) hy
        have hs1 := hx1.size
        have he1 : Ext w w1 := he0.trans hx1
        have hBt_1 : Bx w1 (w.heap.size) [(.slice At1 t.atoms.length ct1)] := hx1.bx hBt_0 (by omega)
        have hFt_1 : ∀ oo, w1.frozen? ⟨w.heap.size, oo, none⟩ = false := fun oo => (hx1.frozen (by omega)).trans (hFt_0 oo)
        clear hBt_0 hFt_0
        clear hy
        go_wp2_with fail
        refine (implWords_any regs _ _ (hregs.ext (Ext.trans he1 Ext.auto))).mono ?_
        rintro e w' ⟨rfl, rfl⟩
        simp only [hw1]
        go_wp2_with fail
        refine (implWords_any loads _ _ (hloads.ext (Ext.trans he1 Ext.auto))).mono ?_
        rintro e w' ⟨rfl, rfl⟩
        simp only [hw2]
        go_wp2
        go_ret
        exact ⟨⟨_, [], rfl, by rw [HV.out]; exact OwnSl.nil _, Fr.nil _ _⟩, Ext.hold he1⟩
      · 
        cases hw3 : wordsB ins
        · 
          have HV := hide (show tabVals t regs loads ins = [] by unfold tabVals; rw [hok, hw1, hw2, hw3]; simp)
          go_enter Try.func13, Try.ntmps13
          go_upto_region 1 with fail
          have he0 : Ext w (w.alloc (Obj.cells #[(.slice At1 t.atoms.length ct1)] 25)) := (Ext.auto)
          have hs0 : w.heap.size + 1 ≤ ((w.alloc (Obj.cells #[(.slice At1 t.atoms.length ct1)] 25))).heap.size := by simp
          have hq0 := hide (show ((w.alloc (Obj.cells #[(.slice At1 t.atoms.length ct1)] 25))).heap.size = w.heap.size + 1 by simp)
          have hBt_0 : Bx (w.alloc (Obj.cells #[(.slice At1 t.atoms.length ct1)] 25)) (w.heap.size) [(.slice At1 t.atoms.length ct1)] := (by have := (Bx.new w #[(.slice At1 t.atoms.length ct1)] 25); simpa using this)
          have hFt_0 : ∀ oo, ((w.alloc (Obj.cells #[(.slice At1 t.atoms.length ct1)] 25))).frozen? ⟨w.heap.size, oo, none⟩ = false := fun oo => by simp
          generalize (w.alloc (Obj.cells #[(.slice At1 t.atoms.length ct1)] 25)) = w0 at *
          have yt : w.heap.size < w0.heap.size := by omega
          have xt0 : w0.cell? ⟨w.heap.size, 0, none⟩ = some ((.slice At1 t.atoms.length ct1)) := hBt_0 0 _ rfl
          have ft := hFt_0
          go_wp2_with fail
          refine (implTabOk_any t _ _ (ht1.ext (Ext.trans he0 Ext.auto)) hn).mono ?_
          rintro e w1 ⟨rfl, hy⟩
          simp only [hok]
          clear xt0 yt
          clear ft
          have hx1 : Ext w0 w1 := Ext.trans (Ext.auto) hy
          have hs1 := hx1.size
          have he1 : Ext w w1 := he0.trans hx1
          have hBt_1 : Bx w1 (w.heap.size) [(.slice At1 t.atoms.length ct1)] := hx1.bx hBt_0 (by omega)
          have hFt_1 : ∀ oo, w1.frozen? ⟨w.heap.size, oo, none⟩ = false := fun oo => (hx1.frozen (by omega)).trans (hFt_0 oo)
          clear hBt_0 hFt_0
          clear hy
          go_wp2_with fail
          refine (implWords_any regs _ _ (hregs.ext (Ext.trans he1 Ext.auto))).mono ?_
          rintro e w' ⟨rfl, rfl⟩
          simp only [hw1]
          go_wp2_with fail
          refine (implWords_any loads _ _ (hloads.ext (Ext.trans he1 Ext.auto))).mono ?_
          rintro e w' ⟨rfl, rfl⟩
          simp only [hw2]
          go_wp2_with fail
          refine (implWords_any ins _ _ (hins.ext (Ext.trans he1 Ext.auto))).mono ?_
          rintro e w' ⟨rfl, rfl⟩
          simp only [hw3]
          go_wp2
          go_ret
          exact ⟨⟨_, [], rfl, by rw [HV.out]; exact OwnSl.nil _, Fr.nil _ _⟩, Ext.hold he1⟩
        · 
          have HV := hide (show tabVals t regs loads ins = valsOf regs loads ins t.atoms by unfold tabVals; rw [hok, hw1, hw2, hw3]; rfl)
          have hl200 := (tab_blk hok).1
          have HO := hide hok
          have HW := hide (And.intro hw1 (And.intro hw2 hw3))
          go_enter Try.func13, Try.ntmps13
          go_upto_region 1 with fail
          have he0 : Ext w (w.alloc (Obj.cells #[(.slice At1 t.atoms.length ct1)] 25)) := (Ext.auto)
          have hs0 : w.heap.size + 1 ≤ ((w.alloc (Obj.cells #[(.slice At1 t.atoms.length ct1)] 25))).heap.size := by simp
          have hq0 := hide (show ((w.alloc (Obj.cells #[(.slice At1 t.atoms.length ct1)] 25))).heap.size = w.heap.size + 1 by simp)
          have hBt_0 : Bx (w.alloc (Obj.cells #[(.slice At1 t.atoms.length ct1)] 25)) (w.heap.size) [(.slice At1 t.atoms.length ct1)] := (by have := (Bx.new w #[(.slice At1 t.atoms.length ct1)] 25); simpa using this)
          have hFt_0 : ∀ oo, ((w.alloc (Obj.cells #[(.slice At1 t.atoms.length ct1)] 25))).frozen? ⟨w.heap.size, oo, none⟩ = false := fun oo => by simp
          generalize (w.alloc (Obj.cells #[(.slice At1 t.atoms.length ct1)] 25)) = w0 at *
          have yt : w.heap.size < w0.heap.size := by omega
          have xt0 : w0.cell? ⟨w.heap.size, 0, none⟩ = some ((.slice At1 t.atoms.length ct1)) := hBt_0 0 _ rfl
          have ft := hFt_0
          go_wp2_with fail
          refine (implTabOk_any t _ _ (ht1.ext (Ext.trans he0 Ext.auto)) hn).mono ?_
          rintro e w1 ⟨rfl, hy⟩
          simp only [hok]
          clear xt0 yt
          clear ft
          have hx1 : Ext w0 w1 := Ext.trans (Ext.auto) hy
          have hs1 := hx1.size
          have he1 : Ext w w1 := he0.trans hx1
          have hBt_1 : Bx w1 (w.heap.size) [(.slice At1 t.atoms.length ct1)] := hx1.bx hBt_0 (by omega)
          have hFt_1 : ∀ oo, w1.frozen? ⟨w.heap.size, oo, none⟩ = false := fun oo => (hx1.frozen (by omega)).trans (hFt_0 oo)
          clear hBt_0 hFt_0
          clear hy
          go_wp2_with fail
          refine (implWords_any regs _ _ (hregs.ext (Ext.trans he1 Ext.auto))).mono ?_
          rintro e w' ⟨rfl, rfl⟩
          simp only [hw1]
          go_wp2_with fail
          refine (implWords_any loads _ _ (hloads.ext (Ext.trans he1 Ext.auto))).mono ?_
          rintro e w' ⟨rfl, rfl⟩
          simp only [hw2]
          go_wp2_with fail
          refine (implWords_any ins _ _ (hins.ext (Ext.trans he1 Ext.auto))).mono ?_
          rintro e w' ⟨rfl, rfl⟩
          simp only [hw3]
          clear hok hw1 hw2 hw3
          have hA0 : App w1 w1 3 (.slice none 0 0) ([] : List Int) [] [] := App.nil _ _
          have yt : w.heap.size < w1.heap.size := by omega
          have xt0 : w1.cell? ⟨w.heap.size, 0, none⟩ = some ((.slice At1 t.atoms.length ct1)) := hBt_1 0 _ rfl
          have ft := hFt_1
          go_wp2
          clear xt0 yt
          clear ft
          have hBtK := hBt_1
          have hFtK := hFt_1
          go_loopw [9, 34] (fun vo i wz => ∃ (k : Nat) (v : Value) (L : List Int) (Fs : List (List Nat)) (xs : List Value), vo = v ∧ k ≤ t.atoms.length ∧ i = .int .i64 k ∧ App w1 wz 3 v L Fs xs ∧ L.length ≤ k ∧ Hid (L = valsOf regs loads ins (t.atoms.take k))) (fun _ i _ => t.atoms.length - (intOf i).toNat)
          case atStart => exact ⟨0, _, [], [], [], rfl, by omega, rfl, hA0, by simp, hide rfl⟩
          case round =>
            clear hA0 hBt_1 hFt_1
            obtain ⟨w2, hwr⟩ : ∃ w2 : World, w2 = wr := ⟨_, rfl⟩
            subst hwr
            obtain ⟨k, v, L, Fs, xs, rfl, hk, rfl, hA, hLk, HL⟩ := hrel
            have hy := hA.ext
            obtain ⟨F7, hO7, -⟩ := hA.done
            obtain ⟨A7, c7, rfl, -, -⟩ := hO7.sl.form
            clear hO7
            have hs2 := hy.size
            have he2 := he1.trans hy
            have hBt_2 := hy.bx hBtK (by omega)
            have hFt_2 : ∀ oo, w2.frozen? ⟨w.heap.size, oo, none⟩ = false := fun oo => (hy.frozen (by omega)).trans (hFtK oo)
            clear hy
            by_cases hlt : k < t.atoms.length
            · 
              have hvw := vals_word HW.out.1 HW.out.2.1 HW.out.2.2 t.atoms k (by omega)
              have hnx := vals_take (regs := regs) (loads := loads) (ins := ins) hlt
              rw [← HL.out] at hvw hnx
              have HVW := hide hvw
              have HNX := hide hnx
              have hat := tabOk_at (l := t.atoms) HO.out hlt
              clear hvw hnx
              obtain ⟨b, off, v1, v2, rfl, hbo, hk0, hv1, hv2, e0, e1, e2, e3⟩ := at_TabAtom (ht1.ext he2) hlt
              have hbo1 : b < w2.heap.size := hbo
              obtain ⟨B1, d1, rfl, -, -⟩ := hv1.form
              obtain ⟨B2, d2, rfl, -, -⟩ := hv2.form
              have z0 : (0 : Int) ≤ (k : Int) := by omega
              have z1 : (k : Int) < (t.atoms.length : Int) := by omega
              obtain ⟨a, ha_⟩ : ∃ a, a = t.atoms[k] := ⟨_, rfl⟩
              rw [← ha_] at hk0 hv1 hv2 e0 e1 e2 e3 HNX hat
              clear ha_
              have yt : w.heap.size < w2.heap.size := by omega
              have xt0 : w2.cell? ⟨w.heap.size, 0, none⟩ = some ((.slice (some ⟨b, off, none⟩) t.atoms.length ct1)) := hBt_2 0 _ rfl
              have ft := hFt_2
              go_upto_region 7 with fail
              clear xt0 yt
              clear ft
              have he3 : Ext w (w2.alloc (.cells #[.int .i64 a.kind, .int .i64 a.k, .slice B1 a.x.monos.length d1, .slice B2 a.y.monos.length d2] 30)) := Ext.hold he2
              have hx3 : Ext w2 (w2.alloc (.cells #[.int .i64 a.kind, .int .i64 a.k, .slice B1 a.x.monos.length d1, .slice B2 a.y.monos.length d2] 30)) := Ext.auto
              have hs3 : w2.heap.size + 1 ≤ ((w2.alloc (.cells #[.int .i64 a.kind, .int .i64 a.k, .slice B1 a.x.monos.length d1, .slice B2 a.y.monos.length d2] 30))).heap.size := by simp
              have hBt_3 : Bx (w2.alloc (.cells #[.int .i64 a.kind, .int .i64 a.k, .slice B1 a.x.monos.length d1, .slice B2 a.y.monos.length d2] 30)) (w.heap.size) [(.slice (some ⟨b, off, none⟩) t.atoms.length ct1)] := Bx.hold hBt_2
              have hFt_3 : ∀ oo, (w2.alloc (.cells #[.int .i64 a.kind, .int .i64 a.k, .slice B1 a.x.monos.length d1, .slice B2 a.y.monos.length d2] 30)).frozen? ⟨w.heap.size, oo, none⟩ = false := fz_hold hFt_2
              have hBc_3 : Bx (w2.alloc (.cells #[.int .i64 a.kind, .int .i64 a.k, .slice B1 a.x.monos.length d1, .slice B2 a.y.monos.length d2] 30)) (w2.heap.size) [.int .i64 a.kind, .int .i64 a.k, .slice B1 a.x.monos.length d1, .slice B2 a.y.monos.length d2] := Bx.new w2 #[.int .i64 a.kind, .int .i64 a.k, .slice B1 a.x.monos.length d1, .slice B2 a.y.monos.length d2] 30
              have hFc_3 : ∀ oo, (w2.alloc (.cells #[.int .i64 a.kind, .int .i64 a.k, .slice B1 a.x.monos.length d1, .slice B2 a.y.monos.length d2] 30)).frozen? ⟨w2.heap.size, oo, none⟩ = false := fz_new w2 #[.int .i64 a.kind, .int .i64 a.k, .slice B1 a.x.monos.length d1, .slice B2 a.y.monos.length d2] 30 rfl
              generalize (w2.alloc (.cells #[.int .i64 a.kind, .int .i64 a.k, .slice B1 a.x.monos.length d1, .slice B2 a.y.monos.length d2] 30)) = w3 at *
              clear hBt_2 hFt_2
              clear e0 e1 e2 e3
              replace hA := hA.call hx3
              have yc : w2.heap.size < w3.heap.size := by omega
              have xc0 := hBc_3 0 _ rfl
              have xc1 := hBc_3 1 _ rfl
              have xc2 := hBc_3 2 _ rfl
              have xc3 := hBc_3 3 _ rfl
              have fc := hFc_3
              go_upto_block 2 with fail
              clear xc0 xc1 xc2 xc3 yc
              clear fc
              go_cut [12] (fun v wx => v = .int .i64 (atomVal regs loads ins L a) ∧ Ext w3 wx)
              · 
                have hO7 := hA.done
                obtain ⟨F7, hO7, hF7⟩ := hO7
                have hSL := hO7.old hF7
                clear hO7 hF7
                unfold atomOkB at hat
                by_cases hk1 : a.kind = 1
                · 
                  have q1 : (a.kind == 1) = true := by simp [hk1]
                  have HE := hide (show atomVal regs loads ins L a = wAt regs a.k by unfold atomVal; rw [if_pos hk1])
                  rw [if_pos hk1] at hat
                  have hkk : 0 ≤ a.k := by simp [inB] at hat; omega
                  clear hat hk1
                  have yc : w2.heap.size < w3.heap.size := by omega
                  have xc0 := hBc_3 0 _ rfl
                  have xc1 := hBc_3 1 _ rfl
                  have xc2 := hBc_3 2 _ rfl
                  have xc3 := hBc_3 3 _ rfl
                  have fc := hFc_3
                  go_wp2_with fail
                  refine (implWord_any regs a.k _ _ (hregs.ext he3) hkk).mono ?_
                  rintro e w' ⟨rfl, rfl⟩
                  go_wp2_with fail
                  go_meet
                  exact ⟨by rw [HE.out], Ext.refl _⟩
                have q1 : (a.kind == 1) = false := by simp [hk1]
                by_cases hk2 : a.kind = 2
                · 
                  have q2 : (a.kind == 2) = true := by simp [hk2]
                  have HE := hide (show atomVal regs loads ins L a = wAt loads a.k by unfold atomVal; rw [if_neg (by omega), if_pos hk2])
                  rw [if_neg (show ¬ a.kind = 1 by omega), if_pos (show a.kind = 2 ∨ a.kind = 3 by omega)] at hat
                  have hkk : 0 ≤ a.k := by simp [inB] at hat; omega
                  clear hat hk2
                  have yc : w2.heap.size < w3.heap.size := by omega
                  have xc0 := hBc_3 0 _ rfl
                  have xc1 := hBc_3 1 _ rfl
                  have xc2 := hBc_3 2 _ rfl
                  have xc3 := hBc_3 3 _ rfl
                  have fc := hFc_3
                  go_wp2_with fail
                  refine (implWord_any loads a.k _ _ (hloads.ext he3) hkk).mono ?_
                  rintro e w' ⟨rfl, rfl⟩
                  go_wp2_with fail
                  go_meet
                  exact ⟨by rw [HE.out], Ext.refl _⟩
                have q2 : (a.kind == 2) = false := by simp [hk2]
                by_cases hk3 : a.kind = 3
                · 
                  have q3 : (a.kind == 3) = true := by simp [hk3]
                  have HE := hide (show atomVal regs loads ins L a = wAt ins a.k by unfold atomVal; rw [if_neg (by omega), if_neg (by omega), if_pos hk3])
                  rw [if_neg (show ¬ a.kind = 1 by omega), if_pos (show a.kind = 2 ∨ a.kind = 3 by omega)] at hat
                  have hkk : 0 ≤ a.k := by simp [inB] at hat; omega
                  clear hat hk3
                  have yc : w2.heap.size < w3.heap.size := by omega
                  have xc0 := hBc_3 0 _ rfl
                  have xc1 := hBc_3 1 _ rfl
                  have xc2 := hBc_3 2 _ rfl
                  have xc3 := hBc_3 3 _ rfl
                  have fc := hFc_3
                  go_wp2_with fail
                  refine (implWord_any ins a.k _ _ (hins.ext he3) hkk).mono ?_
                  rintro e w' ⟨rfl, rfl⟩
                  go_wp2_with fail
                  go_meet
                  exact ⟨by rw [HE.out], Ext.refl _⟩
                have q3 : (a.kind == 3) = false := by simp [hk3]
                rw [if_neg hk1, if_neg (show ¬ (a.kind = 2 ∨ a.kind = 3) by omega)] at hat
                have hk4 : a.kind = 4 := by
                  by_cases h : a.kind = 4
                  · exact h
                  · rw [if_neg h] at hat; cases hat
                rw [if_pos hk4] at hat
                simp only [Bool.and_eq_true] at hat
                obtain ⟨⟨⟨⟨hop, hpx⟩, hpy⟩, -⟩, -⟩ := hat
                have hop0 : 1 ≤ a.k ∧ a.k ≤ 5 := by simpa [inB] using hop
                have HE := hide (show atomVal regs loads ins L a = wrdDo a.k (evalSum L a.x.monos) (evalSum L a.y.monos) by unfold atomVal; rw [if_neg hk1, if_neg hk2, if_neg hk3])
                have HPX := hide hpx
                have HPY := hide hpy
                have wx := wordB_iff.2 (evalSum_word L a.x.monos)
                have wy := wordB_iff.2 (evalSum_word L a.y.monos)
                have HEX := hide (show polEval a.x L = evalSum L a.x.monos by unfold polEval; rw [hpx, HVW.out]; rfl)
                have HEY := hide (show polEval a.y L = evalSum L a.y.monos by unfold polEval; rw [hpy, HVW.out]; rfl)
                clear hk1 hk2 hk3 hk4 hop hpx hpy
                generalize hex : evalSum L a.x.monos = ex at *
                generalize hey : evalSum L a.y.monos = ey at *
                have HXI := hide hex
                have HYI := hide hey
                clear hex hey
                have yc : w2.heap.size < w3.heap.size := by omega
                have xc0 := hBc_3 0 _ rfl
                have xc1 := hBc_3 1 _ rfl
                have xc2 := hBc_3 2 _ rfl
                have xc3 := hBc_3 3 _ rfl
                have fc := hFc_3
                go_upto_region 9 with fail
                have hS : ∀ w', Ext w3 w' → ∀ bb oo, bb < w3.heap.size → w'.cell? ⟨bb, oo, none⟩ = w3.cell? ⟨bb, oo, none⟩ := fun w' hx bb oo hb => hx.cell hb
                refine wp_region_plan (fun w' => Ext w3 w') 10 (.float 0 (.float 1 (.float 2 (.float 3 (.float 4 (.float 6 (.float 7 (.float 8 (.chain 5 (.chain 9 (.tail 10))))))))))) (by kernel_rfl) (by kernel_rfl) (Ext.refl _).drew ?_
                iterate 8 ((refine Plan.float_step (v := ?_) rfl (by rfl) (fun _ _ _ h => h) (fun w' hSw => ?_) ?_; rotate_left; · (go_simp; try with_reducible rfl)); (try simp only [Act.put, List.setIfInBounds_toArray, List.set_cons_zero, List.set_cons_succ]))
                refine Plan.chain_step rfl (fun K hK => ?_)
                go_simp
                refine (implEval_any a.x L _ _ _ (hv1.ext (hx3.trans Ext.auto)) (hSL.ext Ext.auto) HPX.out HVW.out).mono ?_
                rintro e wq1 ⟨rfl, hy⟩
                rw [HXI.out]
                have hq1 : Ext w3 wq1 := Ext.trans Ext.auto hy
                clear hy
                refine hK.out _ _ hq1 ?_
                clear hK
                (try simp only [Act.put, List.setIfInBounds_toArray, List.set_cons_zero, List.set_cons_succ])
                refine Plan.chain_step rfl (fun K hK => ?_)
                go_simp
                refine (implEval_any a.y L _ _ _ (hv2.ext ((hx3.trans hq1).trans Ext.auto)) (hSL.ext (hq1.trans Ext.auto)) HPY.out HVW.out).mono ?_
                rintro e wq2 ⟨rfl, hy⟩
                rw [HYI.out]
                have hq2 : Ext w3 wq2 := hq1.trans (Ext.trans Ext.auto hy)
                clear hy
                refine hK.out _ _ hq2 ?_
                clear hK
                (try simp only [Act.put, List.setIfInBounds_toArray, List.set_cons_zero, List.set_cons_succ])
                refine Plan.tail_step ?_
                simp only [List.drop_succ_cons, List.drop_zero]
                clear hS
                go_wp2_with fail
                refine (implWrdDo_any a.k ex ey _ hop0 wx wy).mono ?_
                rintro e w' ⟨rfl, rfl⟩
                go_wp2_with fail
                go_meet
                exact ⟨by rw [HE.out], Ext.hold hq2⟩
              obtain ⟨w4, hwc⟩ : ∃ w4 : World, w4 = wc := ⟨_, rfl⟩
              subst hwc
              obtain ⟨rfl, hy⟩ := hcut
              replace hA := hA.call hy
              have hfw := atomVal_word (out := L) HW.out.1 HW.out.2.1 HW.out.2.2 a
              generalize atomVal regs loads ins L a = x at *
              have hfit : Fits x := by unfold Fits; omega
              go_upto_region 17 with (at_builtin; refine wpList_append_push2 (α := Int) (w0 := w1) (wr := w4) rfl _ _ 39 rfl i0a _ 8 Try.underlying39 HIa.out HZ0a.out HZ1a.out HZ2a.out rfl (by decide) hA rfl x #[.int .i64 x] 3 [] _ rfl Ext.auto ⟨⟨rfl, hfit⟩, rfl⟩ (Fr.nil _ _) (by repeat (first | (exact fun _ h => absurd h (List.not_mem_nil)) | (refine List.forall_mem_cons.2 ⟨rfl, ?_⟩))) (by unfold maxLen; omega) (by omega) ?_; intro v' w9 xs' hA9 hg9 hb9)
              go_wp2_with fail
              go_roundw
              case rel => exact ⟨k + 1, _, L ++ [x], _, _, rfl, by omega, by go_num, hA9, by simp; omega, hide (by rw [HNX.out])⟩
              case measure => simp [intOf]; omega
            · 
              obtain rfl : k = t.atoms.length := by omega
              have HT := hide (show L = valsOf regs loads ins t.atoms by rw [HL.out, List.take_length])
              obtain ⟨F9, hO9, hF9⟩ := hA.done
              have yt : w.heap.size < w2.heap.size := by omega
              have xt0 : w2.cell? ⟨w.heap.size, 0, none⟩ = some ((.slice At1 t.atoms.length ct1)) := hBt_2 0 _ rfl
              have ft := hFt_2
              go_wp2
              go_ret
              exact ⟨⟨_, F9, rfl, by rw [HV.out, ← HT.out]; exact hO9, hF9.mk1 (by omega) (by simp)⟩, Ext.hold he2⟩

end Go.Proofs.Ytmbclopkopfngaa
