/-
  A machine at its beginning: the reference.
-/
import Derived.Test.YtokibcicoomceaaDoorDrawS
import Derived.Test.YtokibcicoomceaaDoorMachOk
import Derived.Test.YtokibcicoomceaaDoorGrowLib
import Derived.Test.YtokibcicoomceaaDoorByteLib
import Derived.Test.YtokibcicoomceaaDoorTo
import Derived.Deep.DeepCutAuto
namespace Go.Proofs.YtokibcicoomceaaDoor
open Go.RowKit

set_option linter.unusedVariables false
set_option linter.unusedSimpArgs false
set_option maxRecDepth 100000

def NewPost (w : World) (n : Nat) (e : Ending) (w' : World) : Prop := ∃ (m : MchMach) (r1 r2 r3 r4 : Value), e = .returned (.agg #[r1, .int .i64 m.pc, r2, .int .i64 m.save, .bool m.lets, .bool m.waits, .int .i64 m.halt, r3, r4, .int .i64 m.count]) ∧ MOk m ∧ m.outs = [] ∧ m.ins.length ≤ n ∧ Sl w' (New w w') r1 m.regs ∧ Sl w' (New w w') r2 m.mem ∧ Sl w' (New w w') r3 m.ins ∧ Sl w' (New w w') r4 m.outs ∧ Ext w w'

theorem Sl.lit (w : World) (L : List Int) (T n : Nat) (hn : n = L.length) (hL : ∀ x, x ∈ L → Fits x) (hm : L.length ≤ 100000) (cs : List Value) (hcs : cs = L.map (Value.int .i64)) : Sl (w.alloc (.cells cs.toArray T)) (fun b => b = w.heap.size) (.slice (some ⟨w.heap.size, 0, none⟩) n n) L := by
  subst hcs hn
  refine ⟨_, L.length, rfl, Nat.le_refl _, by unfold maxLen; omega, fun h => by simp at h, fun _ => ⟨w.heap.size, 0, rfl, rfl, fun i a ha => ⟨[.int .i64 a], ⟨rfl, hL a (List.mem_of_getElem? ha)⟩, fun j u hu => ?_⟩⟩⟩
  have hj : j = 0 := by have := (List.getElem?_eq_some_iff.1 hu).1; simpa using this
  subst hj
  have hb := Bx.new w (L.map (Value.int .i64)).toArray T
  have := hb i (.int .i64 a) (by simp [ha])
  simp at hu
  subst hu
  simpa [Rep.sz] using this

set_option maxHeartbeats 16000000 in
theorem specMchNew_any (words : List Int) (ins : List Int) (vwords vins : Value) (w : World) (hwords : Sl w (Old w) vwords words) (hins : Sl w (Old w) vins ins) (hnw : words.length ≤ 64) (hww : wordsB words = true) (hiw : wordsB ins = true) (hni : ins.length ≤ 4194304) :
    Calls Tryd.prog 98 #[vwords, vins] w fun e w' => NewPost w ins.length e w' := by
  obtain ⟨Awords, cwords, rfl, hlwords, hmwords⟩ := hwords.form
  obtain ⟨Ains, cins, rfl, hlins, hmins⟩ := hins.form
  obtain ⟨i0, hi, hz0, hz1, hz2⟩ := info_parts infInt
  have HI := hide hi
  have HZ0 := hide hz0
  have HZ1 := hide hz1
  have HZ2 := hide hz2
  clear hi hz0 hz1 hz2
  skip
  go_enter Tryd.func98, Tryd.ntmps98
  go_upto_region 1 with fail
  have he0 : Ext w (w.alloc (Obj.cells #[.slice none 0 0, .int .i64 0, .slice none 0 0, .int .i64 0, .bool false, .bool false, .int .i64 0, .slice none 0 0, .slice none 0 0, .int .i64 0] 51)) := (Ext.auto)
  have hs0 : w.heap.size + 1 ≤ ((w.alloc (Obj.cells #[.slice none 0 0, .int .i64 0, .slice none 0 0, .int .i64 0, .bool false, .bool false, .int .i64 0, .slice none 0 0, .slice none 0 0, .int .i64 0] 51))).heap.size := by simp
  have hq0 := hide (show ((w.alloc (Obj.cells #[.slice none 0 0, .int .i64 0, .slice none 0 0, .int .i64 0, .bool false, .bool false, .int .i64 0, .slice none 0 0, .slice none 0 0, .int .i64 0] 51))).heap.size = w.heap.size + 1 by simp)
  have hBres_0 : Bx (w.alloc (Obj.cells #[.slice none 0 0, .int .i64 0, .slice none 0 0, .int .i64 0, .bool false, .bool false, .int .i64 0, .slice none 0 0, .slice none 0 0, .int .i64 0] 51)) (w.heap.size) [.slice none 0 0, .int .i64 0, .slice none 0 0, .int .i64 0, .bool false, .bool false, .int .i64 0, .slice none 0 0, .slice none 0 0, .int .i64 0] := (by have := (Bx.new w #[.slice none 0 0, .int .i64 0, .slice none 0 0, .int .i64 0, .bool false, .bool false, .int .i64 0, .slice none 0 0, .slice none 0 0, .int .i64 0] 51); simpa using this)
  have hFres_0 : ∀ oo, ((w.alloc (Obj.cells #[.slice none 0 0, .int .i64 0, .slice none 0 0, .int .i64 0, .bool false, .bool false, .int .i64 0, .slice none 0 0, .slice none 0 0, .int .i64 0] 51))).frozen? ⟨w.heap.size, oo, none⟩ = false := fun oo => by simp
  generalize (w.alloc (Obj.cells #[.slice none 0 0, .int .i64 0, .slice none 0 0, .int .i64 0, .bool false, .bool false, .int .i64 0, .slice none 0 0, .slice none 0 0, .int .i64 0] 51)) = w0 at *
  have q1 : decide (64 < (words.length : Int)) = false := decide_eq_false (by omega)
  go_wp2_with fail
  refine (specWords_any words _ _ (hwords.ext he0)).mono ?_
  rintro e w' ⟨rfl, rfl⟩
  simp only [hww]
  go_wp2_with fail
  refine (specWords_any ins _ _ (hins.ext he0)).mono ?_
  rintro e w' ⟨rfl, rfl⟩
  simp only [hiw]
  have hA0 := App.emptyAt (α := Int) (w0.alloc (.cells #[.int .i64 0, .int .i64 0, .int .i64 0, .int .i64 0] 3)) 3 (w0.alloc (.cells #[.int .i64 0, .int .i64 0, .int .i64 0, .int .i64 0] 3)).heap.size rfl
  have hS0 := Sl.lit w0 [0, 0, 0, 0] 3 4 rfl (by intro x hx; simp at hx; subst hx; exact fits_small (by omega) (by omega)) (by simp) _ rfl
  have hE2 : Ext w ((w0.alloc (.cells #[.int .i64 0, .int .i64 0, .int .i64 0, .int .i64 0] 3)).alloc (.cells #[] 3)) := Ext.hold he0
  go_upto_region 4 with (at_builtin; go_must (refine wpList_append_flat2 (α := Int) (w0 := (w0.alloc (.cells #[.int .i64 0, .int .i64 0, .int .i64 0, .int .i64 0] 3))) rfl _ _ 39 rfl i0 _ 8 Tryd.underlying39 HI.out HZ0.out HZ1.out HZ2.out rfl (App.emptyAt _ _ _ (by simp)) rfl _ ins _ rfl (hins.ext hE2) (by unfold maxLen; simp; omega) (by simp; omega) ?_); intro v' w9 Fs' xs' hA9 hg9 hb9; obtain ⟨F9, hO9, hF9⟩ := hA9.done; have hy9 := hA9.ext; clear hA9 hb9; simp only [List.nil_append] at hO9; obtain ⟨B3, d3, rfl, -, -⟩ := hO9.sl.form)
  have hx9 : Ext w0 w9 := Ext.trans Ext.auto hy9
  have hs9 := hy9.size
  simp at hs9
  have hT1 : Sl (w9.alloc (Obj.cells #[.slice (some ⟨w0.heap.size, 0, none⟩) 4 4, .int .i64 0, .slice none 0 0, .int .i64 0, .bool false, .bool false, .int .i64 0, (.slice B3 ins.length d3), .slice none 0 0, .int .i64 0] 51)) (fun b => w0.heap.size ≤ b ∧ b < w9.heap.size) (.slice (some ⟨w0.heap.size, 0, none⟩) 4 4) ([0, 0, 0, 0] : List Int) := hS0.keep (fun b o hb => by
    subst hb
    exact (((Ext.refl w9).alloc _).cell (by omega)).trans (hy9.cell (by simp))) (fun b hb => by subst hb; exact ⟨Nat.le_refl _, by omega⟩)
  have hT3 : Sl (w9.alloc (Obj.cells #[.slice (some ⟨w0.heap.size, 0, none⟩) 4 4, .int .i64 0, .slice none 0 0, .int .i64 0, .bool false, .bool false, .int .i64 0, (.slice B3 ins.length d3), .slice none 0 0, .int .i64 0] 51)) (fun b => w0.heap.size ≤ b ∧ b < w9.heap.size) (.slice B3 ins.length d3) ins := hO9.sl.keep (fun b o hb => ((Ext.refl w9).alloc _).cell (hF9.2 b hb).2) (fun b hb => ⟨by have := (hF9.2 b hb).1; simp at this; omega, (hF9.2 b hb).2⟩)
  have he2 : Ext w (w9.alloc (Obj.cells #[.slice (some ⟨w0.heap.size, 0, none⟩) 4 4, .int .i64 0, .slice none 0 0, .int .i64 0, .bool false, .bool false, .int .i64 0, (.slice B3 ins.length d3), .slice none 0 0, .int .i64 0] 51)) := Ext.hold (he0.trans hx9)
  have hs2 : w9.heap.size + 1 ≤ (w9.alloc (Obj.cells #[.slice (some ⟨w0.heap.size, 0, none⟩) 4 4, .int .i64 0, .slice none 0 0, .int .i64 0, .bool false, .bool false, .int .i64 0, (.slice B3 ins.length d3), .slice none 0 0, .int .i64 0] 51)).heap.size := by simp
  have hBres_2 : Bx (w9.alloc (Obj.cells #[.slice (some ⟨w0.heap.size, 0, none⟩) 4 4, .int .i64 0, .slice none 0 0, .int .i64 0, .bool false, .bool false, .int .i64 0, (.slice B3 ins.length d3), .slice none 0 0, .int .i64 0] 51)) (w.heap.size) [.slice none 0 0, .int .i64 0, .slice none 0 0, .int .i64 0, .bool false, .bool false, .int .i64 0, .slice none 0 0, .slice none 0 0, .int .i64 0] := Bx.hold (hx9.bx hBres_0 (by omega))
  have hFres_2 : ∀ oo, (w9.alloc (Obj.cells #[.slice (some ⟨w0.heap.size, 0, none⟩) 4 4, .int .i64 0, .slice none 0 0, .int .i64 0, .bool false, .bool false, .int .i64 0, (.slice B3 ins.length d3), .slice none 0 0, .int .i64 0] 51)).frozen? ⟨w.heap.size, oo, none⟩ = false := fz_hold (fun oo => (hx9.frozen (by omega)).trans (hFres_0 oo))
  have hBx_2 : Bx (w9.alloc (Obj.cells #[.slice (some ⟨w0.heap.size, 0, none⟩) 4 4, .int .i64 0, .slice none 0 0, .int .i64 0, .bool false, .bool false, .int .i64 0, (.slice B3 ins.length d3), .slice none 0 0, .int .i64 0] 51)) w9.heap.size [.slice (some ⟨w0.heap.size, 0, none⟩) 4 4, .int .i64 0, .slice none 0 0, .int .i64 0, .bool false, .bool false, .int .i64 0, (.slice B3 ins.length d3), .slice none 0 0, .int .i64 0] := Bx.new w9 #[.slice (some ⟨w0.heap.size, 0, none⟩) 4 4, .int .i64 0, .slice none 0 0, .int .i64 0, .bool false, .bool false, .int .i64 0, (.slice B3 ins.length d3), .slice none 0 0, .int .i64 0] 51
  have hFx_2 : ∀ oo, (w9.alloc (Obj.cells #[.slice (some ⟨w0.heap.size, 0, none⟩) 4 4, .int .i64 0, .slice none 0 0, .int .i64 0, .bool false, .bool false, .int .i64 0, (.slice B3 ins.length d3), .slice none 0 0, .int .i64 0] 51)).frozen? ⟨w9.heap.size, oo, none⟩ = false := fz_new w9 #[.slice (some ⟨w0.heap.size, 0, none⟩) 4 4, .int .i64 0, .slice none 0 0, .int .i64 0, .bool false, .bool false, .int .i64 0, (.slice B3 ins.length d3), .slice none 0 0, .int .i64 0] 51 rfl
  generalize (w9.alloc (Obj.cells #[.slice (some ⟨w0.heap.size, 0, none⟩) 4 4, .int .i64 0, .slice none 0 0, .int .i64 0, .bool false, .bool false, .int .i64 0, (.slice B3 ins.length d3), .slice none 0 0, .int .i64 0] 51)) = w2 at *
  clear hS0 hO9 hF9 hA0 hE2 hBres_0 hFres_0 hg9 hy9
  have hwi := wordsB_iff.1 hww
  have HWI := hide hwi
  clear hwi hww
  go_upto_region 4 with fail
  go_wp2
  go_loopw [6, 7] (fun kk _ wz => ∃ (L : List Int) (A2 : Option Addr) (c2 : Nat), kk = .int .i64 (L.length : Int) ∧ L.length ≤ 64 ∧ Hid (∀ x, x ∈ L → 0 ≤ x ∧ x < 65536) ∧ Gro 3 w2.heap.size wz (.slice A2 L.length c2) L ∧ Turn [w9.heap.size] w2 wz ∧ Bx wz w9.heap.size [.slice (some ⟨w0.heap.size, 0, none⟩) 4 4, .int .i64 0, .slice A2 L.length c2, .int .i64 0, .bool false, .bool false, .int .i64 0, (.slice B3 ins.length d3), .slice none 0 0, .int .i64 0] ∧ (∀ oo, wz.frozen? ⟨w9.heap.size, oo, none⟩ = false)) (fun kk _ _ => 64 - (intOf kk).toNat)
  case atStart => exact ⟨[], none, 0, rfl, by simp, hide (by intro x hx; simp at hx), Gro.nil _ _ _, Turn.refl _ _, hBx_2, hFx_2⟩
  case round =>
    obtain ⟨w3, hwr⟩ : ∃ w3 : World, w3 = wr := ⟨_, rfl⟩
    subst hwr
    clear hBx_2 hFx_2
    obtain ⟨L, A2, c2, rfl, hL, HB, hG, hT, hBx, hFx⟩ := hrel
    have hGl := hG.lt
    have hs3 := hT.size
    have he3 : Ext w w3 := hT.ext he2 (fun x hx => by simp at hx; omega)
    have yx : w9.heap.size < w3.heap.size := by omega
    by_cases hlt : L.length < 64
    · 
      have q2 : decide ((L.length : Int) < 64) = true := decide_eq_true (by omega)
      by_cases hw : L.length < words.length
      · 
        have q3 : decide ((L.length : Int) < (words.length : Int)) = true := decide_eq_true (by omega)
        have hv := HWI.out words[L.length] (List.getElem_mem hw)
        obtain ⟨b, off, rfl, hbo, hk0, e0⟩ := at_Int (hwords.ext he3) hw
        have hbl : b < w3.heap.size := hbo
        have z0 : (0 : Int) ≤ (L.length : Int) := by omega
        have z1 : (L.length : Int) < (words.length : Int) := by omega
        generalize words[L.length] = v at *
        have hfit : Fits v := by unfold Fits; omega
        obtain ⟨wa, Fs, xs, h00, hA⟩ := hG
        have hAf := hA.flat
        have hnx : w9.heap.size ∉ (Value.slice A2 L.length c2).ownBlock.toList := fun hm => by have := (hGl w9.heap.size (by simpa using hm)).1; omega
        have xx0 := hBx 0 _ rfl
        have xx1 := hBx 1 _ rfl
        have xx2 := hBx 2 _ rfl
        have xx3 := hBx 3 _ rfl
        have xx4 := hBx 4 _ rfl
        have xx5 := hBx 5 _ rfl
        have xx6 := hBx 6 _ rfl
        have xx7 := hBx 7 _ rfl
        have xx8 := hBx 8 _ rfl
        have xx9 := hBx 9 _ rfl
        have fx := hFx
        go_wp2_with (at_builtin; go_must (refine wpList_append_push2 (α := Int) (w0 := wa) (wr := w3) rfl _ _ 39 rfl i0 _ 8 Tryd.underlying39 HI.out HZ0.out HZ1.out HZ2.out rfl (by decide) hA.app rfl v #[.int .i64 v] 3 [] _ rfl Ext.auto ⟨⟨rfl, hfit⟩, rfl⟩ (Fr.nil _ _) (by repeat (first | (exact fun _ h => absurd h (List.not_mem_nil)) | (refine List.forall_mem_cons.2 ⟨rfl, ?_⟩))) (by unfold maxLen; omega) (by omega) ?_); intro v' w8 xs' hA8 hg8 hb8; have hG8 := Gro.push h00 (fun q hq => (hGl q hq).1) (by simp; omega) hAf hA8 hb8; have hT8 := (Turn.of_grown (a := w3) (b := (w3.alloc (.cells #[.int .i64 v] 3))) Ext.auto hg8); obtain ⟨A8, c8, rfl, hl8, hm8⟩ := hG8.form; have hB8 := hT8.bx hBx yx hnx; have hF8 := fun oo => (hT8.frozen yx hnx).trans (hFx oo); have xy0 := hB8 0 _ rfl; have xy1 := hB8 1 _ rfl; have xy2 := hB8 2 _ rfl; have xy3 := hB8 3 _ rfl; have xy4 := hB8 4 _ rfl; have xy5 := hB8 5 _ rfl; have xy6 := hB8 6 _ rfl; have xy7 := hB8 7 _ rfl; have xy8 := hB8 8 _ rfl; have xy9 := hB8 9 _ rfl; have yx8 := Nat.lt_of_lt_of_le yx (Turn.size hT8))
        have hll : (L ++ [(v : Int)]).length = L.length + 1 := by simp
        rw [hll] at hG8
        have hBn : Bx (w8.setCell ⟨w9.heap.size, 2, none⟩ (.slice A8 (L.length + 1) c8)) w9.heap.size [.slice (some ⟨w0.heap.size, 0, none⟩) 4 4, .int .i64 0, (.slice A8 (L.length + 1) c8), .int .i64 0, .bool false, .bool false, .int .i64 0, (.slice B3 ins.length d3), .slice none 0 0, .int .i64 0] := by have := Bx.put hB8 (j := 2) (by simp) (.slice A8 (L.length + 1) c8); simpa using this
        have hGn := hG8.turn ((Turn.refl [w9.heap.size] w8).set (p := ⟨w9.heap.size, 2, none⟩) (.inl (by simp)) (.slice A8 (L.length + 1) c8)) (fun q hq => by have := (hG8.lt q hq).1; simp; omega)
        have hTn := (hT.trans hT8 (fun q hq => .inr (hGl q (by simpa using hq)).1)).set (p := ⟨w9.heap.size, 2, none⟩) (.inl (by simp)) (.slice A8 (L.length + 1) c8)
        have HBn := hide (show ∀ x, x ∈ L ++ [(v : Int)] → 0 ≤ x ∧ x < 65536 from fun x hx => by
          rcases List.mem_append.1 hx with hx | hx
          · exact HB.out x hx
          · simp at hx; subst hx; exact hv)
        go_round
        case rel => exact ⟨L ++ [(v : Int)], A8, c8, by rw [hll]; go_num, by omega, HBn, by rw [hll]; exact hGn, hTn, by rw [hll]; exact hBn, fz_set hF8 _ _⟩
        case measure => (simp [intOf]; try omega)
      · 
        have q3 : decide ((L.length : Int) < (words.length : Int)) = false := decide_eq_false (by omega)
        obtain ⟨v, hv_⟩ : ∃ v : Int, v = 0 := ⟨0, rfl⟩
        have hv : 0 ≤ v ∧ v < 65536 := by omega
        have HV0 := hide hv_
        clear hv_
        have hfit : Fits v := by unfold Fits; omega
        obtain ⟨wa, Fs, xs, h00, hA⟩ := hG
        have hAf := hA.flat
        have hnx : w9.heap.size ∉ (Value.slice A2 L.length c2).ownBlock.toList := fun hm => by have := (hGl w9.heap.size (by simpa using hm)).1; omega
        have xx0 := hBx 0 _ rfl
        have xx1 := hBx 1 _ rfl
        have xx2 := hBx 2 _ rfl
        have xx3 := hBx 3 _ rfl
        have xx4 := hBx 4 _ rfl
        have xx5 := hBx 5 _ rfl
        have xx6 := hBx 6 _ rfl
        have xx7 := hBx 7 _ rfl
        have xx8 := hBx 8 _ rfl
        have xx9 := hBx 9 _ rfl
        have fx := hFx
        have hv0 := HV0.out
        subst hv0
        go_wp2_with (at_builtin; go_must (refine wpList_append_push2 (α := Int) (w0 := wa) (wr := w3) rfl _ _ 39 rfl i0 _ 8 Tryd.underlying39 HI.out HZ0.out HZ1.out HZ2.out rfl (by decide) hA.app rfl 0 #[.int .i64 0] 3 [] _ rfl Ext.auto ⟨⟨rfl, hfit⟩, rfl⟩ (Fr.nil _ _) (by repeat (first | (exact fun _ h => absurd h (List.not_mem_nil)) | (refine List.forall_mem_cons.2 ⟨rfl, ?_⟩))) (by unfold maxLen; omega) (by omega) ?_); intro v' w8 xs' hA8 hg8 hb8; have hG8 := Gro.push h00 (fun q hq => (hGl q hq).1) (by simp; omega) hAf hA8 hb8; have hT8 := (Turn.of_grown (a := w3) (b := (w3.alloc (.cells #[.int .i64 0] 3))) Ext.auto hg8); obtain ⟨A8, c8, rfl, hl8, hm8⟩ := hG8.form; have hB8 := hT8.bx hBx yx hnx; have hF8 := fun oo => (hT8.frozen yx hnx).trans (hFx oo); have xy0 := hB8 0 _ rfl; have xy1 := hB8 1 _ rfl; have xy2 := hB8 2 _ rfl; have xy3 := hB8 3 _ rfl; have xy4 := hB8 4 _ rfl; have xy5 := hB8 5 _ rfl; have xy6 := hB8 6 _ rfl; have xy7 := hB8 7 _ rfl; have xy8 := hB8 8 _ rfl; have xy9 := hB8 9 _ rfl; have yx8 := Nat.lt_of_lt_of_le yx (Turn.size hT8))
        have hll : (L ++ [(0 : Int)]).length = L.length + 1 := by simp
        rw [hll] at hG8
        have hBn : Bx (w8.setCell ⟨w9.heap.size, 2, none⟩ (.slice A8 (L.length + 1) c8)) w9.heap.size [.slice (some ⟨w0.heap.size, 0, none⟩) 4 4, .int .i64 0, (.slice A8 (L.length + 1) c8), .int .i64 0, .bool false, .bool false, .int .i64 0, (.slice B3 ins.length d3), .slice none 0 0, .int .i64 0] := by have := Bx.put hB8 (j := 2) (by simp) (.slice A8 (L.length + 1) c8); simpa using this
        have hGn := hG8.turn ((Turn.refl [w9.heap.size] w8).set (p := ⟨w9.heap.size, 2, none⟩) (.inl (by simp)) (.slice A8 (L.length + 1) c8)) (fun q hq => by have := (hG8.lt q hq).1; simp; omega)
        have hTn := (hT.trans hT8 (fun q hq => .inr (hGl q (by simpa using hq)).1)).set (p := ⟨w9.heap.size, 2, none⟩) (.inl (by simp)) (.slice A8 (L.length + 1) c8)
        have HBn := hide (show ∀ x, x ∈ L ++ [(0 : Int)] → 0 ≤ x ∧ x < 65536 from fun x hx => by
          rcases List.mem_append.1 hx with hx | hx
          · exact HB.out x hx
          · simp at hx; subst hx; exact hv)
        go_round
        case rel => exact ⟨L ++ [(0 : Int)], A8, c8, by rw [hll]; go_num, by omega, HBn, by rw [hll]; exact hGn, hTn, by rw [hll]; exact hBn, fz_set hF8 _ _⟩
        case measure => (simp [intOf]; try omega)
    · 
      have q2 : decide ((L.length : Int) < 64) = false := decide_eq_false (by omega)
      have hL64 : L.length = 64 := by omega
      have HL := hide hL64
      clear hL64
      have xx0 := hBx 0 _ rfl
      have xx1 := hBx 1 _ rfl
      have xx2 := hBx 2 _ rfl
      have xx3 := hBx 3 _ rfl
      have xx4 := hBx 4 _ rfl
      have xx5 := hBx 5 _ rfl
      have xx6 := hBx 6 _ rfl
      have xx7 := hBx 7 _ rfl
      have xx8 := hBx 8 _ rfl
      have xx9 := hBx 9 _ rfl
      have fx := hFx
      have hBr : Bx w3 (w.heap.size) [.slice none 0 0, .int .i64 0, .slice none 0 0, .int .i64 0, .bool false, .bool false, .int .i64 0, .slice none 0 0, .slice none 0 0, .int .i64 0] := hT.bx hBres_2 (by omega) (by simp; omega)
      have hFr : ∀ oo, w3.frozen? ⟨w.heap.size, oo, none⟩ = false := fun oo => (hT.frozen (by omega) (by simp; omega)).trans (hFres_2 oo)
      have yres : w.heap.size < w3.heap.size := by omega
      have xres0 := hBr 0 _ rfl
      have xres1 := hBr 1 _ rfl
      have xres2 := hBr 2 _ rfl
      have xres3 := hBr 3 _ rfl
      have xres4 := hBr 4 _ rfl
      have xres5 := hBr 5 _ rfl
      have xres6 := hBr 6 _ rfl
      have xres7 := hBr 7 _ rfl
      have xres8 := hBr 8 _ rfl
      have xres9 := hBr 9 _ rfl
      have fres := hFr
      go_wp2
      refine bodyPost_ret (v := .agg #[.slice (some ⟨w0.heap.size, 0, none⟩) 4 4, .int .i64 0, .slice A2 L.length c2, .int .i64 0, .bool false, .bool false, .int .i64 0, (.slice B3 ins.length d3), .slice none 0 0, .int .i64 0]) (by simp [results, Tryd.results98, go_sem, xres0, xres1, xres2, xres3, xres4, xres5, xres6, xres7, xres8, xres9]) rfl ?_
      unfold NewPost
      have hK : MOk ⟨[0, 0, 0, 0], 0, L, 0, false, false, 0, ins, [], 0⟩ := ⟨rfl, by simp, (show (0 : Int) ≤ 0 by decide), (show (0 : Int) < 65536 by decide), HL.out, HB.out, (show (0 : Int) ≤ 0 by decide), (show (0 : Int) < 65536 by decide), (show (0 : Int) ≤ 0 by decide), (show (0 : Int) ≤ 4 by decide), wordsB_iff.1 hiw, by simp, (show (0 : Int) ≤ 0 by decide), (show (0 : Int) ≤ 1000000 by decide)⟩
      have hTT : Turn [w9.heap.size, w.heap.size] w2 w3 := hT.mono (by simp)
      refine ⟨_, _, _, _, _, rfl, hK, rfl, Nat.le_refl _, ?_, ?_, ?_, Sl.nil _ _, Ext.hold he3⟩
      · exact (hT1.turn (Turn.hold hTT) (fun b hb => ⟨by omega, by simp; omega⟩)).keep (fun _ _ _ => rfl) (fun b hb => ⟨by omega, by simp; omega⟩)
      · exact (hG.turn (Turn.hold (Turn.refl [w.heap.size] w3)) (fun q hq => by have := (hGl q hq).1; simp; omega)).slN.keep (fun _ _ _ => rfl) (fun b hb => ⟨by omega, hb.2⟩)
      · exact (hT3.turn (Turn.hold hTT) (fun b hb => ⟨by omega, by simp; omega⟩)).keep (fun _ _ _ => rfl) (fun b hb => ⟨by omega, by simp; omega⟩)

end Go.Proofs.YtokibcicoomceaaDoor
