/-
  The words of a machine are drawn.
-/
import Derived.Test.YtokibcicoomceaaDoorDrawY
import Derived.Test.YtokibcicoomceaaDoorDrawN
import Derived.Test.YtokibcicoomceaaDoorGrowLib
import Derived.Deep.DeepCutAuto
import Derived.Deep.CutBlock
namespace Go.Proofs.YtokibcicoomceaaDoor
open Go.RowKit

set_option linter.unusedVariables false
set_option linter.unusedSimpArgs false
set_option maxRecDepth 100000

def lenOf : Value → Nat
  | .slice _ n _ => n
  | _ => 0
theorem lenOf_slice (A : Option Addr) (n c : Nat) : lenOf (.slice A n c) = n := rfl

set_option maxHeartbeats 16000000 in
theorem l20Image_any (rb base P : Nat) (w : World) (h : Rdr rb base P w) (hP : P ≤ 1099511600000)  :
    Calls Tryd.prog 99 #[.pointer (some ⟨rb, 0, none⟩)] w fun e w' => (∃ v : Value, e = .returned v ∧ ∃ l : List Int, Gro 3 w.heap.size w' v l ∧ 48 ≤ l.length ∧ l.length ≤ 60 ∧ (∀ x, x ∈ l → 0 ≤ x ∧ x < 65536)) ∧ Rdr rb base (P + 2000) w' ∧ Turn [rb] w w' := by
  have hlt := h.lt
  have hlt1 := hlt.1
  have hlt2 := hlt.2
  clear hlt
  obtain ⟨i0, hi, hz0, hz1, hz2⟩ := info_parts infInt
  have HI := hide hi
  have HZ0 := hide hz0
  have HZ1 := hide hz1
  have HZ2 := hide hz2
  clear hi hz0 hz1 hz2
  obtain ⟨i1, hi, hz0, hz1, hz2⟩ := info_parts infInsIns
  have JI := hide hi
  have JZ0 := hide hz0
  have JZ1 := hide hz1
  have JZ2 := hide hz2
  clear hi hz0 hz1 hz2
  go_enter Tryd.func99, Tryd.ntmps99
  go_upto_region 1 with fail
  have he0 : Ext w w := Ext.refl _
  have hs0 : w.heap.size ≤ w.heap.size := Nat.le_refl _
  have hR0 : Rdr rb base P w := h.ext he0
  have hT0 : Turn [rb] w w := Turn.of_ext he0 _
  have hG0 := Gro.empty (α := InsIns) w 30
  go_wp2_with fail
  refine (pick_any rb base _ _ (Rdr.hold hR0) (by omega) 2 (by omega) (by omega)).mono ?_
  rintro e w1 ⟨⟨u, rfl, lu, qu⟩, hR1, hy⟩
  have uu : u < 2 := by omega
  clear qu
  have hG1 := hG0.turn hy (fun q hq => by simp [Value.ownBlock] at hq; subst hq; simp; omega)
  clear hG0
  have hs1 := hy.size
  try simp at hs1
  have hT1 : Turn [rb] w w1 := (Turn.hold hT0).trans hy
  go_upto_if 11 with fail
  go_cut [3] (fun v3 wx => ∃ (L : List InsIns) (A : Option Addr) (c : Nat), v3 = .slice A L.length c ∧ L.length ≤ 1 ∧ Hid (∀ zz, zz ∈ L → InsIn zz) ∧ Gro 30 w.heap.size wx (.slice A L.length c) L ∧ Rdr rb base (P + 1) wx ∧ Turn [rb] w wx)
  case first =>
    by_cases h0 : u = 0
    · 
      have q1 : (u == 0) = true := by simp [h0]
      clear h0
      have hGl := hG1.lt
      obtain ⟨wa, Fs, xs, h00, hA⟩ := hG1
      have hAf := hA.flat
      have hv0 : InsIn ⟨0, 0, 0, 2⟩ := by unfold InsIn; simp only []; omega
      go_wp2_with (at_builtin; go_must (refine wpList_append_push2 (α := InsIns) (w0 := wa) (wr := w1) rfl _ _ 23 rfl i1 _ 32 Tryd.underlying23 JI.out JZ0.out JZ1.out JZ2.out rfl (by decide) hA.app rfl (⟨0, 0, 0, 2⟩) #[.int .i64 0, .int .i64 0, .int .i64 0, .int .i64 2] 30 [] _ rfl Ext.auto ⟨rfl, hv0.ok, rfl⟩ (Fr.nil _ _) (by repeat (first | (exact fun _ h => absurd h (List.not_mem_nil)) | (refine List.forall_mem_cons.2 ⟨rfl, ?_⟩))) (by unfold maxLen; first | omega | (simp; done)) (by first | omega | (simp; done)) ?_); intro v' w9 xs' hA9 hg9 hb9; have hG9 := Gro.push h00 (fun q hq => (hGl q hq).1) (by simp; omega) hAf hA9 hb9; have hT9 := (Turn.of_grown (a := w1) (b := (w1.alloc (.cells #[.int .i64 0, .int .i64 0, .int .i64 0, .int .i64 2] 30))) Ext.auto hg9); obtain ⟨A9, c9, rfl, hl9, hm9⟩ := hG9.form)
      have hR9 := hR1.turn hT9 (fun q hq => by have := (hGl q (by simpa using hq)).1; omega)
      have hTw := hT1.trans hT9 (fun q hq => .inr (hGl q (by simpa using hq)).1)
      go_meet
      exact ⟨[] ++ [⟨0, 0, 0, 2⟩], A9, c9, rfl, by simp, hide (fun zz hzz => by simp at hzz; subst hzz; exact hv0), hG9, hR9, hTw⟩
    · 
      have q1 : (u == 0) = false := by simp [h0]
      clear h0
      go_wp2_with fail
      go_meet
      exact ⟨[], _, 0, rfl, by simp, hide (fun zz hzz => by simp at hzz), hG1, hR1, hT1⟩
  case rest =>
    obtain ⟨L, A, c, rfl, hL1, HB, hG, hRc, hTc⟩ := hcut
    obtain ⟨w1c, hwc⟩ : ∃ w1c : World, w1c = wc := ⟨_, rfl⟩
    subst hwc
    clear hG1 hR1 hT1 hy hR0 hT0 he0
    go_wp2_with fail
    refine (pick_any rb base _ _ hRc (by omega) 5 (by omega) (by omega)).mono ?_
    rintro e w2 ⟨⟨x, rfl, lx, qx⟩, hR2, hy⟩
    have ux : x < 5 := by omega
    clear qx
    have hGc := hG.turn hy (fun q hq => by have := (hG.lt q hq).1; simp; omega)
    have hT2 := hTc.trans hy
    clear hy hG hRc hTc
    go_upto_block 0 with fail
    go_cut [3, 4, 5] (fun v3 _ _ wx => ∃ (L : List InsIns) (A : Option Addr) (c : Nat), v3 = .slice A L.length c ∧ L.length ≤ 44 ∧ Hid (∀ zz, zz ∈ L → InsIn zz) ∧ Gro 30 w.heap.size wx (.slice A L.length c) L ∧ Rdr rb base (P + 700) wx ∧ Turn [rb] w wx)
    case first =>
      go_wp2_with fail
      go_loopw [3, 4, 5] (fun v3 v4 _ wz => ∃ (L : List InsIns) (A : Option Addr) (c : Nat) (r : Int) (p : Nat), v3 = .slice A L.length c ∧ v4 = .int .i64 r ∧ 0 ≤ r ∧ r ≤ 5 ∧ L.length ≤ 44 ∧ p + 122 * r.toNat ≤ 620 ∧ Hid (∀ zz, zz ∈ L → InsIn zz) ∧ Gro 30 w.heap.size wz (.slice A L.length c) L ∧ Rdr rb base (P + p) wz ∧ Turn [rb] w wz) (fun _ v4 _ _ => (intOf v4).toNat)
      case atStart => exact ⟨L, A, c, _, 2, rfl, rfl, by omega, by omega, by omega, by omega, HB, hGc, hR2, hT2⟩
      case round =>
        obtain ⟨w3, hwr⟩ : ∃ w3 : World, w3 = wr := ⟨_, rfl⟩
        subst hwr
        clear hGc hR2 hT2 HB hL1
        obtain ⟨L, A, c, r, p, rfl, rfl, hr0, hr5, hL, hp, HB, hG, hR, hT⟩ := hrel
        have hsw := hT.size
        by_cases hlr : 0 < r
        rotate_left
        · have q1 : decide (0 < r) = false := decide_eq_false hlr
          go_wp2_with fail
          go_meet
          exact ⟨L, A, c, rfl, hL, HB, hG, hR.up (by omega), hT⟩
        by_cases hL34 : L.length < 34
        rotate_left
        · have q1 : decide (0 < r) = true := decide_eq_true hlr
          have q2 : decide ((L.length : Int) < 34) = false := decide_eq_false (by omega)
          go_wp2_with fail
          go_meet
          exact ⟨L, A, c, rfl, hL, HB, hG, hR.up (by omega), hT⟩
        have q1 : decide (0 < r) = true := decide_eq_true hlr
        have q2 : decide ((L.length : Int) < 34) = true := decide_eq_true (by omega)
        go_wp2_with fail
        refine (pick_any rb base _ _ hR (by omega) 4 (by omega) (by omega)).mono ?_
        rintro e w4 ⟨⟨y, rfl, ly, qy⟩, hR4, hy⟩
        have uy : y < 4 := by omega
        clear qy
        have hs4 := hy.size
        have hG4 := hG.turn hy (fun q hq => by have := (hG.lt q hq).1; simp; omega)
        have hT4 := hT.trans hy
        clear hy hG hR hT
        by_cases h0 : y = 0
        · 
          have p0 : (y == 0) = true := by simp [h0]
          go_wp2_with fail
          refine (l20Body_any rb base _ _ hR4 (by omega) (L.length : Int) (by omega) (by omega)).mono ?_
          rintro e w5 ⟨⟨v, rfl, L2, hG2, hL2, hin2⟩, hR5, hy⟩
          obtain ⟨A2, c2, rfl, hlc2, hm2⟩ := hG2.form
          have hs5 := hy.size
          have hG5 := hG4.turn hy (fun q hq => by have := (hG4.lt q hq).1; simp; omega)
          have hT5 := hT4.trans hy
          have hS2 := hG2.sl
          have hGl := hG5.lt
          obtain ⟨wa, Fs, xs, h00, hA⟩ := hG5
          clear hG4
          go_wp2_with (at_builtin; go_must (refine wpList_append_flat2 (α := InsIns) (w0 := wa) rfl _ _ 23 rfl i1 _ 32 Tryd.underlying23 JI.out JZ0.out JZ1.out JZ2.out rfl hA.app rfl _ L2 _ rfl hS2 (by unfold maxLen; omega) (by omega) ?_); intro v' w9 Fs' xs' hA9 hg9 hb9)
          have hG9 := Gro.more h00 (fun q hq => (hGl q hq).1) (by omega) hA9 hb9
          have hT9 := (Turn.of_grown (a := w5) (b := w5) Ext.auto hg9)
          obtain ⟨A9, c9, rfl, -, -⟩ := hG9.form
          have hll : (L ++ L2).length = L.length + L2.length := by simp
          have HB9 := hide (show ∀ zz, zz ∈ L ++ L2 → InsIn zz from fun zz hzz => by
            rcases List.mem_append.1 hzz with hzz | hzz
            · exact HB.out zz hzz
            · exact hin2 zz hzz)
          go_wp2_with fail
          go_round
          case rel => exact ⟨L ++ L2, A9, c9, r - 1, p + 1 + 120, by first | rfl | rw [hll], by go_num, by omega, by omega, by omega, by omega, HB9, hG9, (hR5.turn hT9 (fun q hq => by have := (hGl q (by simpa using hq)).1; omega)).up (by omega), hT5.trans hT9 (fun q hq => .inr (hGl q (by simpa using hq)).1)⟩
          case measure => (simp [intOf]; try omega)
        by_cases h1 : y = 1
        · 
          have p0 : (y == 0) = false := by simp [h1]
          have p1 : (y == 1) = true := by simp [h1]
          go_wp2_with fail
          refine (l20Over_any rb base _ _ hR4 (by omega) (L.length : Int) (by omega) (by omega)).mono ?_
          rintro e w5 ⟨⟨v, rfl, L2, hG2, hL2, hin2⟩, hR5, hy⟩
          obtain ⟨A2, c2, rfl, hlc2, hm2⟩ := hG2.form
          have hs5 := hy.size
          have hG5 := hG4.turn hy (fun q hq => by have := (hG4.lt q hq).1; simp; omega)
          have hT5 := hT4.trans hy
          have hS2 := hG2.sl
          have hGl := hG5.lt
          obtain ⟨wa, Fs, xs, h00, hA⟩ := hG5
          clear hG4
          go_wp2_with (at_builtin; go_must (refine wpList_append_flat2 (α := InsIns) (w0 := wa) rfl _ _ 23 rfl i1 _ 32 Tryd.underlying23 JI.out JZ0.out JZ1.out JZ2.out rfl hA.app rfl _ L2 _ rfl hS2 (by unfold maxLen; omega) (by omega) ?_); intro v' w9 Fs' xs' hA9 hg9 hb9)
          have hG9 := Gro.more h00 (fun q hq => (hGl q hq).1) (by omega) hA9 hb9
          have hT9 := (Turn.of_grown (a := w5) (b := w5) Ext.auto hg9)
          obtain ⟨A9, c9, rfl, -, -⟩ := hG9.form
          have hll : (L ++ L2).length = L.length + L2.length := by simp
          have HB9 := hide (show ∀ zz, zz ∈ L ++ L2 → InsIn zz from fun zz hzz => by
            rcases List.mem_append.1 hzz with hzz | hzz
            · exact HB.out zz hzz
            · exact hin2 zz hzz)
          go_wp2_with fail
          go_round
          case rel => exact ⟨L ++ L2, A9, c9, r - 1, p + 1 + 3, by first | rfl | rw [hll], by go_num, by omega, by omega, by omega, by omega, HB9, hG9, (hR5.turn hT9 (fun q hq => by have := (hGl q (by simpa using hq)).1; omega)).up (by omega), hT5.trans hT9 (fun q hq => .inr (hGl q (by simpa using hq)).1)⟩
          case measure => (simp [intOf]; try omega)
        have p0 : (y == 0) = false := by simp [h0]
        have p1 : (y == 1) = false := by simp [h1]
        go_wp2_with fail
        refine (pick_any rb base _ _ hR4 (by omega) 8 (by omega) (by omega)).mono ?_
        rintro e w5 ⟨⟨z, rfl, lz, qz⟩, hR5, hy⟩
        have uz : z < 8 := by omega
        clear qz
        have hs5 := hy.size
        have hG5 := hG4.turn hy (fun q hq => by have := (hG4.lt q hq).1; simp; omega)
        have hT5 := hT4.trans hy
        clear hy hG4 hR4 hT4
        obtain ⟨wo, hwo⟩ : ∃ wo : World, wo = w5 := ⟨_, rfl⟩
        go_wp2_with fail
        go_loopw [3, 5] (fun v3 v5 wz => ∃ (L : List InsIns) (A : Option Addr) (c : Nat) (q : Int) (t : Nat), v3 = .slice A L.length c ∧ v5 = .int .i64 q ∧ 0 ≤ q ∧ L.length + q.toNat ≤ 42 ∧ t + 8 * q.toNat ≤ p + 80 ∧ Hid (∀ zz, zz ∈ L → InsIn zz) ∧ Gro 30 w.heap.size wz (.slice A L.length c) L ∧ Rdr rb base (P + t) wz ∧ Turn [rb] w wz) (fun _ v5 _ => (intOf v5).toNat)
        case atStart => exact ⟨L, A, c, _, p + 1 + 1, rfl, rfl, by omega, by omega, by omega, HB, hG5, hR5, hT5⟩
        case round =>
          obtain ⟨w6, hwr⟩ : ∃ w6 : World, w6 = wr := ⟨_, rfl⟩
          subst hwr
          clear hG5 hR5 hT5 HB
          obtain ⟨L', A', c', q, t, rfl, rfl, hq0, hLq, ht, HB, hG, hR, hT⟩ := hrel
          have hsw6 := hT.size
          by_cases hlq : 0 < q
          rotate_left
          · have q3 : decide (0 < q) = false := decide_eq_false hlq
            go_wp2_with fail
            go_round
            case rel => exact ⟨L', A', c', r - 1, t, rfl, by go_num, by omega, by omega, by omega, by omega, HB, hG, hR, hT⟩
            case measure => (simp [intOf]; try omega)
          have q3 : decide (0 < q) = true := decide_eq_true hlq
          go_wp2_with fail
          refine (l20Ins_any rb base _ _ hR (by omega)).mono ?_
          rintro e w7 ⟨⟨i, rfl, hval9⟩, hR7, hy⟩
          have hs7 := hy.size
          have hG7 := hG.turn hy (fun q hq => by have := (hG.lt q hq).1; simp; omega)
          have hT7 := hT.trans hy
          clear hy hG hR hT
          have hGl := hG7.lt
          obtain ⟨wa, Fs, xs, h00, hA⟩ := hG7
          have hAf := hA.flat
          go_wp2_with (at_builtin; go_must (refine wpList_append_push2 (α := InsIns) (w0 := wa) (wr := w7) rfl _ _ 23 rfl i1 _ 32 Tryd.underlying23 JI.out JZ0.out JZ1.out JZ2.out rfl (by decide) hA.app rfl (i) #[.int .i64 i.op, .int .i64 i.d, .int .i64 i.a, .int .i64 i.k] 30 [] _ rfl Ext.auto ⟨rfl, hval9.ok, rfl⟩ (Fr.nil _ _) (by repeat (first | (exact fun _ h => absurd h (List.not_mem_nil)) | (refine List.forall_mem_cons.2 ⟨rfl, ?_⟩))) (by unfold maxLen; first | omega | (simp; done)) (by first | omega | (simp; done)) ?_); intro v' w9 xs' hA9 hg9 hb9; have hG9 := Gro.push h00 (fun q hq => (hGl q hq).1) (by simp; omega) hAf hA9 hb9; have hT9 := (Turn.of_grown (a := w7) (b := (w7.alloc (.cells #[.int .i64 i.op, .int .i64 i.d, .int .i64 i.a, .int .i64 i.k] 30))) Ext.auto hg9); obtain ⟨A9, c9, rfl, hl9, hm9⟩ := hG9.form)
          have hR9 := hR7.turn hT9 (fun q hq => by have := (hGl q (by simpa using hq)).1; omega)
          have hTw := hT7.trans hT9 (fun q hq => .inr (hGl q (by simpa using hq)).1)
          have hll : (L' ++ [(i)]).length = L'.length + 1 := by simp
          have HB9 := hide (show ∀ zz, zz ∈ L' ++ [(i)] → InsIn zz from fun zz hzz => by
            rcases List.mem_append.1 hzz with hzz | hzz
            · exact HB.out zz hzz
            · simp at hzz; subst hzz; exact hval9)
          go_wp2_with fail
          go_round
          case rel => exact ⟨L' ++ [i], A9, c9, q - 1, t + 8, by rw [hll], by go_num, by omega, by omega, by omega, HB9, hG9, hR9, hTw⟩
          case measure => (simp [intOf]; try omega)
    case rest =>
      obtain ⟨L, A, c, rfl, hL44, HB, hG, hR, hT⟩ := hcut
      obtain ⟨w3, hwc⟩ : ∃ w3 : World, w3 = wc := ⟨_, rfl⟩
      subst hwc
      clear hGc hR2 hT2
      have hsw := hT.size
      have hval9 : InsIn ⟨0, 0, 0, 0⟩ := by unfold InsIn; simp only []; omega
      have hGl := hG.lt
      obtain ⟨wa, Fs, xs, h00, hA⟩ := hG
      have hAf := hA.flat
      go_wp2_with (at_builtin; go_must (refine wpList_append_push2 (α := InsIns) (w0 := wa) (wr := w3) rfl _ _ 23 rfl i1 _ 32 Tryd.underlying23 JI.out JZ0.out JZ1.out JZ2.out rfl (by decide) hA.app rfl (⟨0, 0, 0, 0⟩) #[.int .i64 0, .int .i64 0, .int .i64 0, .int .i64 0] 30 [] _ rfl Ext.auto ⟨rfl, hval9.ok, rfl⟩ (Fr.nil _ _) (by repeat (first | (exact fun _ h => absurd h (List.not_mem_nil)) | (refine List.forall_mem_cons.2 ⟨rfl, ?_⟩))) (by unfold maxLen; first | omega | (simp; done)) (by first | omega | (simp; done)) ?_); intro v' w9 xs' hA9 hg9 hb9; have hG9 := Gro.push h00 (fun q hq => (hGl q hq).1) (by simp; omega) hAf hA9 hb9; have hT9 := (Turn.of_grown (a := w3) (b := (w3.alloc (.cells #[.int .i64 0, .int .i64 0, .int .i64 0, .int .i64 0] 30))) Ext.auto hg9); obtain ⟨A9, c9, rfl, hl9, hm9⟩ := hG9.form)
      have hR9 := hR.turn hT9 (fun q hq => by have := (hGl q (by simpa using hq)).1; omega)
      have hTw := hT.trans hT9 (fun q hq => .inr (hGl q (by simpa using hq)).1)
      have hll : (L ++ [(⟨0, 0, 0, 0⟩ : InsIns)]).length = L.length + 1 := by simp
      have HB9 := hide (show ∀ zz, zz ∈ L ++ [(⟨0, 0, 0, 0⟩ : InsIns)] → InsIn zz from fun zz hzz => by
        rcases List.mem_append.1 hzz with hzz | hzz
        · exact HB.out zz hzz
        · simp at hzz; subst hzz; exact hval9)
      have hSL := hG9.sl
      rw [hll] at hSL
      generalize (L ++ [⟨0, 0, 0, 0⟩] : List InsIns) = LL at *
      have hs9 := hT9.size
      have hLn : LL.length ≤ 45 := by omega
      clear hll
      go_wp2_with fail
      refine (blkWords_any LL _ _ hSL (by omega)).mono ?_
      rintro e w10 ⟨⟨v, rfl, hGw⟩, hy⟩
      have hs10 := hy.size
      have hG10 := hGw.down (lo' := w.heap.size) (by omega)
      have hR10 := hR9.ext hy
      have hT10 := hTw.call hy
      have hlm : (LL.map insPut).length ≤ 45 := by simp; omega
      have HBm := hide (show ∀ zz, zz ∈ LL.map insPut → 0 ≤ zz ∧ zz < 65536 from fun zz hzz => by
        obtain ⟨i, -, rfl⟩ := List.mem_map.1 hzz
        exact insPut_word i)
      generalize LL.map insPut = ws at *
      obtain ⟨Aw, cw, rfl, -, -⟩ := hG10.form
      clear hy hGw hSL hG9 hR9 hTw hGl hA hAf HB HB9 hg9 hb9 hA9 hT9 hR hT
      go_wp2_with fail
      go_loopw [6] (fun v6 wz => ∃ (l : List Int) (A : Option Addr) (c p : Nat), v6 = .slice A l.length c ∧ l.length ≤ 48 ∧ p + 12 * (48 - l.length) ≤ 1300 ∧ Hid (∀ zz, zz ∈ l → 0 ≤ zz ∧ zz < 65536) ∧ Gro 3 w.heap.size wz (.slice A l.length c) l ∧ Rdr rb base (P + p) wz ∧ Turn [rb] w wz) (fun v6 _ => 48 - lenOf v6)
      case atStart => exact ⟨ws, Aw, cw, 700, rfl, by omega, by omega, HBm, hG10, hR10, hT10⟩
      case round =>
        obtain ⟨w4, hwr⟩ : ∃ w4 : World, w4 = wr := ⟨_, rfl⟩
        subst hwr
        clear hG10 hR10 hT10 HBm
        obtain ⟨l, A1, c1, p, rfl, hl48, hp, HB, hG, hR, hT⟩ := hrel
        have hsw4 := hT.size
        by_cases hlt : l.length < 48
        · 
          have q1 : decide ((l.length : Int) < 48) = true := decide_eq_true (by omega)
          go_wp2_with fail
          refine (l20Word_any rb base _ _ hR (by omega)).mono ?_
          rintro e w5 ⟨⟨x, rfl, lx, ux⟩, hR5, hy⟩
          have hs5 := hy.size
          have hG5 := hG.turn hy (fun q hq => by have := (hG.lt q hq).1; simp; omega)
          have hT5 := hT.trans hy
          clear hy hG hR hT
          go_wp2_with fail
          refine (l20Ins_any rb base _ _ hR5 (by omega)).mono ?_
          rintro e w6 ⟨⟨i, rfl, hi⟩, hR6, hy⟩
          have hs6 := hy.size
          have hG6 := hG5.turn hy (fun q hq => by have := (hG5.lt q hq).1; simp; omega)
          have hT6 := hT5.trans hy
          clear hy hG5 hR5 hT5
          go_wp2_with fail
          refine (specInsPut_any i _).mono ?_
          rintro e w7 ⟨rfl, hy⟩
          have hpw := insPut_word i
          have hs7 := hy.size
          have hG7 := hG6.ext hy
          have hR7 := hR6.ext hy
          have hT7 := hT6.call hy
          clear hy hG6 hR6 hT6
          generalize insPut i = y at *
          obtain ⟨ly, uy⟩ := hpw
          go_wp2_with fail
          refine (pick_any rb base _ _ (Rdr.hold hR7) (by omega) 3 (by omega) (by omega)).mono ?_
          rintro e w8 ⟨⟨ik, rfl, lik, qik⟩, hR8, hy⟩
          have uik : ik < 3 := by omega
          clear qik
          have hBt := hy.bx (Bx.new w7 #[.int .i64 0, .int .i64 x, .int .i64 y] 3) (by simp) (by simp; omega)
          have yt : w7.heap.size < w8.heap.size := by have := hy.size; simp at this; omega
          have hs8 := hy.size
          try simp at hs8
          have hT8 : Turn [rb] w w8 := (Turn.hold hT7).trans hy
          obtain ⟨Vk, rfl⟩ := Int.eq_ofNat_of_zero_le lik
          have hVk : Vk < 3 := by omega
          have hBt : Bx w8 w7.heap.size (List.map (Value.int .i64) [0, x, y]) := hBt
          have ek := hBt.at_ (v := Vk) hVk
          have hb : ∀ zz ∈ ([0, x, y] : List Int), 0 ≤ zz ∧ zz < 65536 := by intro zz hzz; simp at hzz; omega
          have hb2 := hb _ (List.getElem_mem (l := [0, x, y]) (n := Vk) hVk)
          clear hb hBt
          generalize ([0, x, y] : List Int)[Vk] = k at *
          have lk := hb2.1
          have uk := hb2.2
          clear hb2
          have z0 : (0 : Int) ≤ (Vk : Int) := by omega
          have z1 : (Vk : Int) < 3 := by omega
          have hG8 := (hG7.ext ((Ext.refl w7).alloc (.cells #[.int .i64 0, .int .i64 x, .int .i64 y] 3))).turn hy (fun q hq => by have := (hG7.lt q hq).1; simp; omega)
          clear hG7 hy
          have hval9 : 0 ≤ k ∧ k < 65536 := ⟨lk, uk⟩
          have hfit : Fits k := by unfold Fits; omega
          have hGl := hG8.lt
          obtain ⟨wa, Fs, xs, h00, hA⟩ := hG8
          have hAf := hA.flat
          go_wp2_with (at_builtin; go_must (refine wpList_append_push2 (α := Int) (w0 := wa) (wr := w8) rfl _ _ 39 rfl i0 _ 8 Tryd.underlying39 HI.out HZ0.out HZ1.out HZ2.out rfl (by decide) hA.app rfl (k) #[.int .i64 k] 3 [] _ rfl Ext.auto ⟨⟨rfl, hfit⟩, rfl⟩ (Fr.nil _ _) (by repeat (first | (exact fun _ h => absurd h (List.not_mem_nil)) | (refine List.forall_mem_cons.2 ⟨rfl, ?_⟩))) (by unfold maxLen; first | omega | (simp; done)) (by first | omega | (simp; done)) ?_); intro v' w9 xs' hA9 hg9 hb9; have hG9 := Gro.push h00 (fun q hq => (hGl q hq).1) (by simp; omega) hAf hA9 hb9; have hT9 := (Turn.of_grown (a := w8) (b := (w8.alloc (.cells #[.int .i64 k] 3))) Ext.auto hg9); obtain ⟨A9, c9, rfl, hl9, hm9⟩ := hG9.form)
          have hR9 := hR8.turn hT9 (fun q hq => by have := (hGl q (by simpa using hq)).1; omega)
          have hTw := hT8.trans hT9 (fun q hq => .inr (hGl q (by simpa using hq)).1)
          have hll : (l ++ [(k)]).length = l.length + 1 := by simp
          have HB9 := hide (show ∀ zz, zz ∈ l ++ [(k)] → 0 ≤ zz ∧ zz < 65536 from fun zz hzz => by
            rcases List.mem_append.1 hzz with hzz | hzz
            · exact HB.out zz hzz
            · simp at hzz; subst hzz; exact hval9)
          go_wp2_with fail
          go_round
          case rel => exact ⟨l ++ [k], A9, c9, p + 12, by rw [hll], by omega, by omega, HB9, hG9, hR9.up (by omega), hTw⟩
          case measure => (simp [lenOf, hll]; try omega)
        · have q1 : decide ((l.length : Int) < 48) = false := decide_eq_false (by omega)
          have hl : l.length = 48 := by omega
          have hcc := hG.form
          have hc48 : 48 ≤ c1 := by
            obtain ⟨_, _, e1, e2, -⟩ := hcc
            injection e1 with e1 e3 e4
            omega
          clear hcc
          rw [hl] at hG q1
          have HL := hide hl
          clear hl hlt hl48
          simp only [HL.out]
          go_wp2_with fail
          refine (pick_any rb base _ _ hR (by omega) 4 (by omega) (by omega)).mono ?_
          rintro e w5 ⟨⟨z, rfl, lz, qz⟩, hR5, hy⟩
          have uz : z < 4 := by omega
          clear qz
          have hs5 := hy.size
          have hG5 := hG.turn hy (fun q hq => by have := (hG.lt q hq).1; simp; omega)
          have hT5 := hT.trans hy
          clear hy hG hR hT
          go_wp2_with fail
          go_loopw [6, 7] (fun v6 v7 wz => ∃ (l : List Int) (A : Option Addr) (c : Nat) (q : Int) (t : Nat), v6 = .slice A l.length c ∧ v7 = .int .i64 q ∧ 0 ≤ q ∧ l.length + q.toNat ≤ 51 ∧ 48 ≤ l.length ∧ t + 9 * q.toNat ≤ 1400 ∧ Hid (∀ zz, zz ∈ l → 0 ≤ zz ∧ zz < 65536) ∧ Gro 3 w.heap.size wz (.slice A l.length c) l ∧ Rdr rb base (P + t) wz ∧ Turn [rb] w wz) (fun _ v7 _ => (intOf v7).toNat)
          case atStart => exact ⟨l, A1, c1, z, 1301, by rw [HL.out], rfl, lz, by have := HL.out; omega, by have := HL.out; omega, by omega, HB, by rw [HL.out]; exact hG5, hR5.up (by omega), hT5⟩
          case round =>
            obtain ⟨w6, hwr⟩ : ∃ w6 : World, w6 = wr := ⟨_, rfl⟩
            subst hwr
            clear hG5 hR5 hT5 HB HL
            obtain ⟨l, A1, c1, q, t, rfl, rfl, hq0, hlq, hl48, ht, HB, hG, hR, hT⟩ := hrel
            have hsw6 := hT.size
            by_cases hlq0 : 0 < q
            · 
              have q2 : decide (0 < q) = true := decide_eq_true hlq0
              go_wp2_with fail
              refine (l20Flat_any rb base _ _ hR (by omega)).mono ?_
              rintro e w7 ⟨⟨i, rfl, hi⟩, hR7, hy⟩
              have hs7 := hy.size
              have hG7 := hG.turn hy (fun q hq => by have := (hG.lt q hq).1; simp; omega)
              have hT7 := hT.trans hy
              clear hy hG hR hT
              go_wp2_with fail
              refine (specInsPut_any i _).mono ?_
              rintro e w8 ⟨rfl, hy⟩
              have hval9 := insPut_word i
              have hs8 := hy.size
              have hG8 := hG7.ext hy
              have hR8 := hR7.ext hy
              have hT8 := hT7.call hy
              clear hy hG7 hR7 hT7
              generalize insPut i = k at *
              have hfit : Fits k := by unfold Fits; omega
              have hGl := hG8.lt
              obtain ⟨wa, Fs, xs, h00, hA⟩ := hG8
              have hAf := hA.flat
              go_wp2_with (at_builtin; go_must (refine wpList_append_push2 (α := Int) (w0 := wa) (wr := w8) rfl _ _ 39 rfl i0 _ 8 Tryd.underlying39 HI.out HZ0.out HZ1.out HZ2.out rfl (by decide) hA.app rfl (k) #[.int .i64 k] 3 [] _ rfl Ext.auto ⟨⟨rfl, hfit⟩, rfl⟩ (Fr.nil _ _) (by repeat (first | (exact fun _ h => absurd h (List.not_mem_nil)) | (refine List.forall_mem_cons.2 ⟨rfl, ?_⟩))) (by unfold maxLen; first | omega | (simp; done)) (by first | omega | (simp; done)) ?_); intro v' w9 xs' hA9 hg9 hb9; have hG9 := Gro.push h00 (fun q hq => (hGl q hq).1) (by simp; omega) hAf hA9 hb9; have hT9 := (Turn.of_grown (a := w8) (b := (w8.alloc (.cells #[.int .i64 k] 3))) Ext.auto hg9); obtain ⟨A9, c9, rfl, hl9, hm9⟩ := hG9.form)
              have hR9 := hR8.turn hT9 (fun q hq => by have := (hGl q (by simpa using hq)).1; omega)
              have hTw := hT8.trans hT9 (fun q hq => .inr (hGl q (by simpa using hq)).1)
              have hll : (l ++ [(k)]).length = l.length + 1 := by simp
              have HB9 := hide (show ∀ zz, zz ∈ l ++ [(k)] → 0 ≤ zz ∧ zz < 65536 from fun zz hzz => by
                rcases List.mem_append.1 hzz with hzz | hzz
                · exact HB.out zz hzz
                · simp at hzz; subst hzz; exact hval9)
              go_wp2_with fail
              go_round
              case rel => exact ⟨l ++ [k], A9, c9, q - 1, t + 9, by rw [hll], by go_num, by omega, by omega, by omega, by omega, HB9, hG9, hR9, hTw⟩
              case measure => (simp [intOf]; try omega)
            · 
              have q2 : decide (0 < q) = false := decide_eq_false hlq0
              go_wp2_with fail
              refine (specInsPut_any ⟨14, 3, 0, 0⟩ _).mono ?_
              rintro e w7 ⟨rfl, hy⟩
              have hs7 := hy.size
              have hG7 := hG.ext hy
              have hR7 := hR.ext hy
              have hT7 := hT.call hy
              clear hy hG hR hT
              have hpx := insPut_word ⟨14, 3, 0, 0⟩
              generalize insPut ⟨14, 3, 0, 0⟩ = x at *
              go_wp2_with fail
              refine (specInsPut_any ⟨0, 0, 0, 1⟩ _).mono ?_
              rintro e w8 ⟨rfl, hy⟩
              have hs8 := hy.size
              have hG8 := hG7.ext hy
              have hR8 := hR7.ext hy
              have hT8 := hT7.call hy
              clear hy hG7 hR7 hT7
              have hpy := insPut_word ⟨0, 0, 0, 1⟩
              generalize insPut ⟨0, 0, 0, 1⟩ = y at *
              have hS2 := (Sl.lit w8 [x, y] 3 2 rfl (by intro z hz; simp at hz; rcases hz with rfl | rfl <;> (unfold Fits; omega)) (by simp) _ rfl).keep (S' := Old (w8.alloc (.cells #[.int .i64 x, .int .i64 y] 3))) (fun _ _ _ => rfl) (fun b hb => by subst hb; show _ < _; simp)
              have hGx := hG8.ext ((Ext.refl w8).alloc (.cells #[.int .i64 x, .int .i64 y] 3))
              have hGl := hGx.lt
              obtain ⟨wa, Fs, xs, h00, hA⟩ := hGx
              clear hG8
              go_wp2_with (at_builtin; go_must (refine wpList_append_flat2 (α := Int) (w0 := wa) rfl _ _ 39 rfl i0 _ 8 Tryd.underlying39 HI.out HZ0.out HZ1.out HZ2.out rfl hA.app rfl _ [x, y] _ rfl hS2 (by unfold maxLen; simp; omega) (by simp; omega) ?_); intro v' w9 Fs' xs' hA9 hg9 hb9)
              have hG9 := Gro.more h00 (fun q hq => (hGl q hq).1) (by simp; omega) hA9 hb9
              have hT9 := (Turn.of_grown (a := w8) (b := (w8.alloc (.cells #[.int .i64 x, .int .i64 y] 3))) Ext.auto hg9)
              have hs9 := hT9.size
              have hR9 := hR8.turn hT9 (fun q hq => by have := (hGl q (by simpa using hq)).1; omega)
              have hTw := hT8.trans hT9 (fun q hq => .inr (hGl q (by simpa using hq)).1)
              obtain ⟨A9, c9, rfl, -, -⟩ := hG9.form
              have hll : (l ++ [x, y]).length = l.length + 2 := by simp
              have HB9 := hide (show ∀ zz, zz ∈ l ++ [x, y] → 0 ≤ zz ∧ zz < 65536 from fun zz hzz => by
                rcases List.mem_append.1 hzz with hzz | hzz
                · exact HB.out zz hzz
                · simp at hzz; rcases hzz with rfl | rfl
                  · exact hpx
                  · exact hpy)
              simp only [hll]
              rw [hll] at hG9
              generalize (l ++ [x, y]) = m at *
              have hM1 : 50 ≤ l.length + 2 := by omega
              have hM2 : l.length + 2 ≤ 53 := by omega
              generalize l.length + 2 = M at *
              have HM := hide hll
              clear hll hA hA9 hg9 hb9 hGl hS2 hT9 hR8 hT8 HB hpx hpy
              go_wp2_with fail
              refine (odd_any rb base _ _ hR9 (by omega) 9 (by omega) (by omega)).mono ?_
              rintro e w10 ⟨⟨b, rfl⟩, hR10, hy⟩
              have hs10 := hy.size
              have hG10 := hG9.turn hy (fun q hq => by have := (hG9.lt q hq).1; simp; omega)
              have hT10 := hTw.trans hy
              clear hy hG9 hR9 hTw
              cases b
              · go_wp2
                go_ret
                exact ⟨⟨_, rfl, m, hG10, by have := HM.out; omega, by have := HM.out; omega, HB9.out⟩, hR10.up (by omega), hT10⟩
              go_wp2_with fail
              refine (pick_any rb base _ _ hR10 (by omega) (M : Int) (by omega) (by omega)).mono ?_
              rintro e w11 ⟨⟨i, rfl, li, qi⟩, hR11, hy⟩
              have ui : i < (M : Int) := by omega
              clear qi
              have hs11 := hy.size
              have hG11 := hG10.turn hy (fun q hq => by have := (hG10.lt q hq).1; simp; omega)
              have hT11 := hT10.trans hy
              clear hy hG10 hR10 hT10
              go_wp2_with fail
              refine (l20Word_any rb base _ _ hR11 (by omega)).mono ?_
              rintro e w12 ⟨⟨n, rfl, ln, un⟩, hR12, hy⟩
              have hs12 := hy.size
              have hG12 := hG11.turn hy (fun q hq => by have := (hG11.lt q hq).1; simp; omega)
              have hT12 := hT11.trans hy
              clear hy hG11 hR11 hT11
              obtain ⟨g, rfl, hlo, hmm, hmc, hcm, hF⟩ := hG12.row (by have := HM.out; omega)
              obtain ⟨I, rfl⟩ := Int.eq_ofNat_of_zero_le li
              have hI : I < m.length := by have := HM.out; omega
              have hnf : Fits n := by unfold Fits; omega
              have hGn := hG12.setInt hI hnf
              have hce := hF.int0 hI
              have hfz := hF.fz
              have hgl : g < w12.heap.size := hF.lt
              have z0 : (0 : Int) ≤ (I : Int) := by omega
              clear hmm hF
              go_wp2
              go_ret
              exact ⟨⟨_, rfl, m.set I n, hGn, by rw [List.length_set]; have := HM.out; omega, by rw [List.length_set]; have := HM.out; omega, fun zz hzz => by
                rcases List.mem_or_eq_of_mem_set hzz with hzz | rfl
                · exact HB9.out zz hzz
                · exact ⟨ln, un⟩⟩, (hR12.turn ((Turn.refl [g] w12).set (.inl (by simp)) _) (by simp; omega)).up (by omega), hT12.trans ((Turn.refl [g] w12).set (.inl (by simp)) _) (by simp; omega)⟩

end Go.Proofs.YtokibcicoomceaaDoor
