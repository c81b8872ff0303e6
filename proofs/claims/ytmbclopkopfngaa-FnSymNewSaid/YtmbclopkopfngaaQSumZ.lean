/-
  SumZ
-/
import Derived.Test.YtmbclopkopfngaaQSumX
import Derived.Test.YtmbclopkopfngaaQSumA
import Derived.Deep.DeepCutAuto
namespace Go.Proofs.Ytmbclopkopfngaa
open Go.RowKit

set_option linter.unusedVariables false
set_option linter.unusedSimpArgs false
set_option maxRecDepth 100000

set_option maxHeartbeats 16000000 in
theorem specPolScale_any (a : TrmPoly) (n : Int) (va1 : Value) (w : World) (ha1 : Sl w (Old w) va1 a.monos) (hn : n = 65535) :
    Calls Try.prog 101 #[.agg #[va1], .int .i64 n] w fun e w' => (∃ (r : Value) (p : List TrmMono) (F : List Nat), e = .returned (.agg #[r]) ∧ OwnSl w' r p F ∧ Fr w w' F) ∧ Ext w w' := by
  obtain ⟨Aa1, ca1, rfl, hla1, hma1⟩ := ha1.form
  unfold maxLen at hma1
  subst hn
  have qw : wordB 65535 = true := by decide
  obtain ⟨i0a, hi_, hz0, hz1, hz2⟩ := info_parts infTrmMono
  have HIa := hide hi_
  have HZ0a := hide hz0
  have HZ1a := hide hz1
  have HZ2a := hide hz2
  clear hi_ hz0 hz1 hz2
  cases q1 : polOkB a
  · 
    go_enter Try.func101, Try.ntmps101
    go_upto_region 1 with fail
    have he0 : Ext w ((w.alloc (Obj.cells #[(.slice Aa1 a.monos.length ca1)] 28)).alloc (Obj.cells #[.slice none 0 0] 28)) := (Ext.auto)
    have hs0 : w.heap.size + 2 ≤ (((w.alloc (Obj.cells #[(.slice Aa1 a.monos.length ca1)] 28)).alloc (Obj.cells #[.slice none 0 0] 28))).heap.size := by simp
    have hq0 := hide (show (((w.alloc (Obj.cells #[(.slice Aa1 a.monos.length ca1)] 28)).alloc (Obj.cells #[.slice none 0 0] 28))).heap.size = w.heap.size + 2 by simp)
    have hBa_0 : Bx ((w.alloc (Obj.cells #[(.slice Aa1 a.monos.length ca1)] 28)).alloc (Obj.cells #[.slice none 0 0] 28)) (w.heap.size) [(.slice Aa1 a.monos.length ca1)] := (by have := (Bx.alloc (Bx.new w #[(.slice Aa1 a.monos.length ca1)] 28) (by simp) #[.slice none 0 0] 28); simpa using this)
    have hFa_0 : ∀ oo, (((w.alloc (Obj.cells #[(.slice Aa1 a.monos.length ca1)] 28)).alloc (Obj.cells #[.slice none 0 0] 28))).frozen? ⟨w.heap.size, oo, none⟩ = false := fun oo => by simp
    have hBres_0 : Bx ((w.alloc (Obj.cells #[(.slice Aa1 a.monos.length ca1)] 28)).alloc (Obj.cells #[.slice none 0 0] 28)) (w.heap.size + 1) [.slice none 0 0] := (by have := (Bx.new (w.alloc (Obj.cells #[(.slice Aa1 a.monos.length ca1)] 28)) #[.slice none 0 0] 28); simpa using this)
    have hFres_0 : ∀ oo, (((w.alloc (Obj.cells #[(.slice Aa1 a.monos.length ca1)] 28)).alloc (Obj.cells #[.slice none 0 0] 28))).frozen? ⟨w.heap.size + 1, oo, none⟩ = false := fun oo => by simp
    generalize ((w.alloc (Obj.cells #[(.slice Aa1 a.monos.length ca1)] 28)).alloc (Obj.cells #[.slice none 0 0] 28)) = w0 at *
    have ya : w.heap.size < w0.heap.size := by omega
    have xa0 : w0.cell? ⟨w.heap.size, 0, none⟩ = some ((.slice Aa1 a.monos.length ca1)) := hBa_0 0 _ rfl
    have fa := hFa_0
    go_wp2_with fail
    refine (specPolOk_any a _ _ (ha1.ext (Ext.trans he0 Ext.auto))).mono ?_
    rintro e w1 ⟨rfl, hy⟩
    simp only [q1]
    clear xa0 ya
    clear fa
    have hx1 : Ext w0 w1 := Ext.trans (Ext.auto) hy
    have hs1 := hx1.size
    have he1 : Ext w w1 := he0.trans hx1
    have hBa_1 : Bx w1 (w.heap.size) [(.slice Aa1 a.monos.length ca1)] := hx1.bx hBa_0 (by omega)
    have hFa_1 : ∀ oo, w1.frozen? ⟨w.heap.size, oo, none⟩ = false := fun oo => (hx1.frozen (by omega)).trans (hFa_0 oo)
    have hBres_1 : Bx w1 (w.heap.size + 1) [.slice none 0 0] := hx1.bx hBres_0 (by omega)
    have hFres_1 : ∀ oo, w1.frozen? ⟨w.heap.size + 1, oo, none⟩ = false := fun oo => (hx1.frozen (by omega)).trans (hFres_0 oo)
    clear hBa_0 hFa_0 hBres_0 hFres_0
    clear hy
    have yres : w.heap.size + 1 < w1.heap.size := by omega
    have xres0 : w1.cell? ⟨w.heap.size + 1, 0, none⟩ = some (.slice none 0 0) := hBres_1 0 _ rfl
    have fres := hFres_1
    go_wp2
    refine bodyPost_ret (v := .agg #[.slice none 0 0]) (by simp [results, Try.results101, go_sem, xres0]) rfl ⟨⟨_, [], [], rfl, OwnSl.nil _, Fr.nil _ _⟩, Ext.hold he1⟩
  go_enter Try.func101, Try.ntmps101
  go_upto_region 1 with fail
  have he0 : Ext w ((w.alloc (Obj.cells #[(.slice Aa1 a.monos.length ca1)] 28)).alloc (Obj.cells #[.slice none 0 0] 28)) := (Ext.auto)
  have hs0 : w.heap.size + 2 ≤ (((w.alloc (Obj.cells #[(.slice Aa1 a.monos.length ca1)] 28)).alloc (Obj.cells #[.slice none 0 0] 28))).heap.size := by simp
  have hq0 := hide (show (((w.alloc (Obj.cells #[(.slice Aa1 a.monos.length ca1)] 28)).alloc (Obj.cells #[.slice none 0 0] 28))).heap.size = w.heap.size + 2 by simp)
  have hBa_0 : Bx ((w.alloc (Obj.cells #[(.slice Aa1 a.monos.length ca1)] 28)).alloc (Obj.cells #[.slice none 0 0] 28)) (w.heap.size) [(.slice Aa1 a.monos.length ca1)] := (by have := (Bx.alloc (Bx.new w #[(.slice Aa1 a.monos.length ca1)] 28) (by simp) #[.slice none 0 0] 28); simpa using this)
  have hFa_0 : ∀ oo, (((w.alloc (Obj.cells #[(.slice Aa1 a.monos.length ca1)] 28)).alloc (Obj.cells #[.slice none 0 0] 28))).frozen? ⟨w.heap.size, oo, none⟩ = false := fun oo => by simp
  have hBres_0 : Bx ((w.alloc (Obj.cells #[(.slice Aa1 a.monos.length ca1)] 28)).alloc (Obj.cells #[.slice none 0 0] 28)) (w.heap.size + 1) [.slice none 0 0] := (by have := (Bx.new (w.alloc (Obj.cells #[(.slice Aa1 a.monos.length ca1)] 28)) #[.slice none 0 0] 28); simpa using this)
  have hFres_0 : ∀ oo, (((w.alloc (Obj.cells #[(.slice Aa1 a.monos.length ca1)] 28)).alloc (Obj.cells #[.slice none 0 0] 28))).frozen? ⟨w.heap.size + 1, oo, none⟩ = false := fun oo => by simp
  generalize ((w.alloc (Obj.cells #[(.slice Aa1 a.monos.length ca1)] 28)).alloc (Obj.cells #[.slice none 0 0] 28)) = w0 at *
  have ya : w.heap.size < w0.heap.size := by omega
  have xa0 : w0.cell? ⟨w.heap.size, 0, none⟩ = some ((.slice Aa1 a.monos.length ca1)) := hBa_0 0 _ rfl
  have fa := hFa_0
  go_wp2_with fail
  refine (specPolOk_any a _ _ (ha1.ext (Ext.trans he0 Ext.auto))).mono ?_
  rintro e w1 ⟨rfl, hy⟩
  simp only [q1]
  clear xa0 ya
  clear fa
  have hx1 : Ext w0 w1 := Ext.trans (Ext.auto) hy
  have hs1 := hx1.size
  have he1 : Ext w w1 := he0.trans hx1
  have hBa_1 : Bx w1 (w.heap.size) [(.slice Aa1 a.monos.length ca1)] := hx1.bx hBa_0 (by omega)
  have hFa_1 : ∀ oo, w1.frozen? ⟨w.heap.size, oo, none⟩ = false := fun oo => (hx1.frozen (by omega)).trans (hFa_0 oo)
  have hBres_1 : Bx w1 (w.heap.size + 1) [.slice none 0 0] := hx1.bx hBres_0 (by omega)
  have hFres_1 : ∀ oo, w1.frozen? ⟨w.heap.size + 1, oo, none⟩ = false := fun oo => (hx1.frozen (by omega)).trans (hFres_0 oo)
  clear hBa_0 hFa_0 hBres_0 hFres_0
  clear hy
  go_wp2_with fail
  refine (specWrdOk_any 65535 _).mono ?_
  rintro e w' ⟨rfl, rfl⟩
  simp only [qw]
  have hsa := ok_sum q1
  have hla := ok_len q1
  have haa := ok_atoms q1
  clear q1
  go_upto_region 4 with fail
  have hA0_ : App w1 (w1.alloc (.cells #[] 79)) 79 (.slice (some ⟨w1.heap.size, 0, none⟩) 0 0) ([] : List (Raw 1)) [] [] := App.emptyAt w1 79 _ rfl
  have hab := ha1.ext he1
  have hBa_1K := hBa_1
  have hFa_1K := hFa_1
  have hBres_1K := hBres_1
  have hFres_1K := hFres_1
  have he2 : Ext w (w1.alloc (.cells #[] 79)) := Ext.hold he1
  have hx2 : Ext w1 (w1.alloc (.cells #[] 79)) := Ext.auto
  have hs2 : w1.heap.size + 1 ≤ ((w1.alloc (.cells #[] 79))).heap.size := by simp
  have hBa_2 : Bx (w1.alloc (.cells #[] 79)) (w.heap.size) [(.slice Aa1 a.monos.length ca1)] := Bx.hold hBa_1
  have hFa_2 : ∀ oo, (w1.alloc (.cells #[] 79)).frozen? ⟨w.heap.size, oo, none⟩ = false := fz_hold hFa_1
  have hBres_2 : Bx (w1.alloc (.cells #[] 79)) (w.heap.size + 1) [.slice none 0 0] := Bx.hold hBres_1
  have hFres_2 : ∀ oo, (w1.alloc (.cells #[] 79)).frozen? ⟨w.heap.size + 1, oo, none⟩ = false := fz_hold hFres_1
  generalize (w1.alloc (.cells #[] 79)) = w2 at *
  clear hBa_1 hFa_1 hBres_1 hFres_1
  have ya : w.heap.size < w2.heap.size := by omega
  have xa0 : w2.cell? ⟨w.heap.size, 0, none⟩ = some ((.slice Aa1 a.monos.length ca1)) := hBa_2 0 _ rfl
  have fa := hFa_2
  go_wp2
  clear xa0 ya
  clear fa
  go_loopw [5, 6] (fun v5 i wz => ∃ (k : Nat) (v : Value) (Q : List TrmMono) (R : List (Raw 1)) (Fs : List (List Nat)) (xs : List Value), v5 = v ∧ k ≤ a.monos.length ∧ i = .int .i64 k ∧ App w1 wz 79 v R Fs xs ∧ RawOf w1 (Old w1) Q R ∧ Q.length ≤ k ∧ Hid (∀ x, x ∈ Q → x.atoms.length ≤ 4)) (fun _ i _ => a.monos.length - (intOf i).toNat)
  case atStart => exact ⟨0, _, [], [], [], [], rfl, by omega, rfl, hA0_, RawOf.nil _ _, by simp, hide (fun x hx => by simp at hx)⟩
  case round =>
    clear hA0_ hBa_2 hFa_2 hBres_2 hFres_2
    obtain ⟨w3, hw_⟩ : ∃ w3 : World, w3 = wr := ⟨_, rfl⟩
    subst hw_
    obtain ⟨k, v, Q, R, Fs, xs, rfl, hk, rfl, hA, hQ, hQn, HA4⟩ := hrel
    obtain ⟨F7, hO7, -⟩ := hA.done
    obtain ⟨A7, c7, rfl, -, -⟩ := hO7.sl.form
    clear hO7 F7
    have hRl : R.length ≤ k := by rw [hQ.1]; exact hQn
    have hxB : Ext w1 w3 := hA.ext
    have hs3 := hxB.size
    have he3 : Ext w w3 := he1.trans hxB
    have hBa_3 : Bx w3 (w.heap.size) [(.slice Aa1 a.monos.length ca1)] := hxB.bx hBa_1K (by omega)
    have hFa_3 : ∀ oo, w3.frozen? ⟨w.heap.size, oo, none⟩ = false := fun oo => (hxB.frozen (by omega)).trans (hFa_1K oo)
    have hBres_3 : Bx w3 (w.heap.size + 1) [.slice none 0 0] := hxB.bx hBres_1K (by omega)
    have hFres_3 : ∀ oo, w3.frozen? ⟨w.heap.size + 1, oo, none⟩ = false := fun oo => (hxB.frozen (by omega)).trans (hFres_1K oo)
    by_cases hlt : k < a.monos.length
    · 
      obtain ⟨b, off, va, rfl, hbo, hk0, hva, e0, e1⟩ := at_TrmMono hab hlt
      obtain ⟨Ava, cva, rfl, -, -⟩ := hva.form
      have hbo0 : b < w1.heap.size := hbo
      replace e0 := (hxB.cell hbo0).trans e0
      replace e1 := (hxB.cell hbo0).trans e1
      have hbo2 : b < w3.heap.size := by omega
      have z0 : (0 : Int) ≤ (k : Int) := by omega
      have z1 : (k : Int) < (a.monos.length : Int) := by omega
      have hmx := (hsa.2 a.monos[k] (List.getElem_mem hlt)).1
      have hax := haa a.monos[k] (List.getElem_mem hlt)
      obtain ⟨x, hx_⟩ : ∃ x, x = a.monos[k] := ⟨_, rfl⟩
      rw [← hx_] at hk0 hva e0 e1 hmx hax
      clear hx_
      have c0 := hmx.1
      have c1 := hmx.2
      have zs0 : -4294967296 ≤ x.coef * 65535 := by omega
      have zs1 : x.coef * 65535 ≤ 4294967296 := by omega
      have zw : IntKind.i64.wrap (x.coef * 65535) = x.coef * 65535 := by rw [IntKind.wrap_i64]; omega
      have hn0 : 0 ≤ (x.coef * 65535) % 65536 := by omega
      have hn1 : (x.coef * 65535) % 65536 < 65536 := by omega
      have ya : w.heap.size < w3.heap.size := by omega
      have xa0 : w3.cell? ⟨w.heap.size, 0, none⟩ = some ((.slice (some ⟨b, off, none⟩) a.monos.length ca1)) := hBa_3 0 _ rfl
      have fa := hFa_3
      go_wp2_with fail
      refine (specWrap_any (x.coef * 65535) zs0 zs1 _).mono ?_
      rintro e w' ⟨rfl, rfl⟩
      clear zs0 zs1 zw
      generalize (x.coef * 65535) % 65536 = c at *
      by_cases hc : 0 < c
      · 
        have q2 : decide (0 < c) = true := decide_eq_true hc
        clear hc
        have hrn : Rep.rep w1 (Old w1) [.int .i64 c, .slice Ava x.atoms.length cva] (⟨c, x.atoms⟩ : TrmMono) := ⟨_, rfl, by show Fits c; unfold Fits; omega, hva⟩
        go_upto_region 6 with (
            at_builtin; refine wpList_append_push2 (w0 := w1) (wr := w3) rfl _ _ 26 rfl i0a _ 32 Try.underlying26 HIa.out HZ0a.out HZ1a.out HZ2a.out rfl (by decide) hA rfl (⟨[.int .i64 c, .slice Ava x.atoms.length cva], rfl, (by repeat (first | (exact fun _ h => absurd h (List.not_mem_nil)) | (refine List.forall_mem_cons.2 ⟨rfl, ?_⟩)))⟩ : Raw 1) #[.int .i64 c, .slice Ava x.atoms.length cva] 79 [] _ rfl Ext.auto ⟨rfl, rfl⟩ (Fr.nil _ _) (by repeat (first | (exact fun _ h => absurd h (List.not_mem_nil)) | (refine List.forall_mem_cons.2 ⟨rfl, ?_⟩))) (by unfold maxLen; omega) (by omega) ?_
            intro v' wq9 xs' hA9 hg9 hb9)
        go_wp2_with fail
        go_roundw
        case rel => exact ⟨k + 1, _, Q ++ [⟨c, x.atoms⟩], _, _, _, rfl, by omega, by go_num, hA9, hQ.snoc hrn, by simp; omega, hide (fun y hy => by
          rcases List.mem_append.1 hy with hy | hy
          · exact HA4.out y hy
          · simp at hy; subst hy; exact hax)⟩
        case measure => simp [intOf]; omega
      · 
        have q2 : decide (0 < c) = false := decide_eq_false hc
        clear hc
        go_wp2_with fail
        go_roundw
        case rel => exact ⟨k + 1, _, Q, _, _, _, rfl, by omega, by go_num, hA, hQ, by omega, HA4⟩
        case measure => simp [intOf]; omega
    · 
      obtain ⟨F9, hO9, hF9⟩ := hA.done
      have hSQ := Sl.of_raw (α := TrmMono) rfl (hO9.old hF9) (hQ.keep (Ext.old hxB) (Ext.oldIn hxB))
      have hbQ := fit_blk (fit_of (show Q.length ≤ 12 by omega) HA4.out)
      clear hO9 hF9 hA HA4
      have ya : w.heap.size < w3.heap.size := by omega
      have xa0 : w3.cell? ⟨w.heap.size, 0, none⟩ = some ((.slice Aa1 a.monos.length ca1)) := hBa_3 0 _ rfl
      have fa := hFa_3
      go_wp2_with fail
      refine (l4Copy_any Q _ _ (hSQ.ext Ext.auto) (by omega)).mono ?_
      rintro e w4 ⟨r, F, rfl, hO, hF, hy⟩
      clear xa0 ya
      clear fa
      have hx4 : Ext w3 w4 := Ext.trans (Ext.auto) hy
      have hs4 := hx4.size
      have he4 : Ext w w4 := he3.trans hx4
      have hBa_4 : Bx w4 (w.heap.size) [(.slice Aa1 a.monos.length ca1)] := hx4.bx hBa_3 (by omega)
      have hFa_4 : ∀ oo, w4.frozen? ⟨w.heap.size, oo, none⟩ = false := fun oo => (hx4.frozen (by omega)).trans (hFa_3 oo)
      have hBres_4 : Bx w4 (w.heap.size + 1) [.slice none 0 0] := hx4.bx hBres_3 (by omega)
      have hFres_4 : ∀ oo, w4.frozen? ⟨w.heap.size + 1, oo, none⟩ = false := fun oo => (hx4.frozen (by omega)).trans (hFres_3 oo)
      clear hBa_3 hFa_3 hBres_3 hFres_3
      have hy_ := hy
      clear hy
      obtain ⟨B1, d1, rfl, -, -⟩ := hO.sl.form
      have yres : w.heap.size + 1 < w4.heap.size := by omega
      have xres0 : w4.cell? ⟨w.heap.size + 1, 0, none⟩ = some (.slice none 0 0) := hBres_4 0 _ rfl
      have fres := hFres_4
      go_wp2
      refine bodyPost_ret (v := .agg #[.slice B1 Q.length d1]) (by simp [results, Try.results101, go_sem, xres0]) rfl ⟨⟨_, Q, F, rfl, OwnSl.stay hO (fun z hz => by
          have q := hF.2 z hz; have q1 := q.1
          repeat (first | rw [heap_set _ _ _ _ (by show _ ≠ z; omega)] | rw [heap_set _ _ _ _ (by simp; omega)])), hF.mk1 (by omega) (by simp)⟩, Ext.hold he4⟩

end Go.Proofs.Ytmbclopkopfngaa
