/-
  slices.IndexFunc and slices.DeleteFunc over cache entries, for the two functions that are handed in.
-/
import Derived.Test.YtjemadbhpbbhlaaCacE
import Derived.Test.YtjemadbhpbbhlaaDelLib
namespace Go.Proofs.Ytjemadbhpbbhlaa
open Go.RowKit

set_option linter.unusedVariables false
set_option linter.unusedSimpArgs false
set_option maxRecDepth 100000

theorem findI_some {α : Type} (p : α → Bool) (l : List α) (h : ¬ ∀ a, a ∈ l → p a = false) : ∃ k, ∃ hk : k < l.length, findI p l = (k : Int) ∧ p l[k] = true ∧ ∀ a, a ∈ l.take k → p a = false := by
  unfold findI
  cases hq : l.findIdx? p with
  | none =>
    rw [List.findIdx?_eq_none_iff] at hq
    exact absurd (fun a ha => hq a ha) h
  | some k =>
    rw [List.findIdx?_eq_some_iff_getElem] at hq
    obtain ⟨hk, h1, h2⟩ := hq
    refine ⟨k, hk, rfl, h1, fun a ha => ?_⟩
    obtain ⟨j, hj, rfl⟩ := List.mem_take_iff_getElem.1 ha
    have := h2 j (by omega)
    simpa using this
theorem filter_none {α : Type} (p : α → Bool) (l : List α) (h : ∀ a, a ∈ l → p a = false) : l.filter (fun a => !p a) = l := by
  rw [List.filter_eq_self]
  intro a ha; simp [h a ha]
theorem filter_first {α : Type} (p : α → Bool) (l : List α) (k : Nat) (hk : k < l.length) (h : ∀ a, a ∈ l.take k → p a = false) (hp : p l[k] = true) : l.take k = (l.take (k + 1)).filter (fun a => !p a) := by
  rw [List.take_succ_eq_append_getElem hk, List.filter_append, filter_none p _ h]
  simp [hp]
theorem filter_yes {α : Type} (p : α → Bool) (l : List α) (k : Nat) (hk : k < l.length) (hp : p l[k] = true) : (l.take (k + 1)).filter (fun a => !p a) = (l.take k).filter (fun a => !p a) := by
  rw [List.take_succ_eq_append_getElem hk, List.filter_append]
  simp [hp]
theorem filter_no {α : Type} (p : α → Bool) (l : List α) (k : Nat) (hk : k < l.length) (hp : p l[k] = false) : (l.take (k + 1)).filter (fun a => !p a) = (l.take k).filter (fun a => !p a) ++ [l[k]] := by
  rw [List.take_succ_eq_append_getElem hk, List.filter_append]
  simp [hp]
theorem drop_at {α : Type} {X l : List α} {n : Nat} (h : X.drop n = l.drop n) (h1 : n < X.length) (h2 : n < l.length) : X[n] = l[n] := by
  rw [List.drop_eq_getElem_cons h1, List.drop_eq_getElem_cons h2] at h
  injection h
theorem drop_next {α : Type} {X l : List α} {n : Nat} (h : X.drop n = l.drop n) : X.drop (n + 1) = l.drop (n + 1) := by
  rw [← List.drop_drop, ← List.drop_drop, h]
theorem set_take {α : Type} {X : List α} {m : Nat} (a : α) (hm : m < X.length) : (X.set m a).take (m + 1) = X.take m ++ [a] := by
  rw [List.take_succ_eq_append_getElem (by simpa using hm)]
  simp [List.take_set_of_le]
theorem set_drop {α : Type} {X : List α} {m n : Nat} (a : α) (h : m < n) : (X.set m a).drop n = X.drop n := by
  rw [List.drop_set_of_lt h]

set_option maxHeartbeats 2000000 in
theorem indexFunc_106 (l : List CacEntry) (v cap : Value) (p : CacEntry → Bool) (w : World) (C : World → Prop) (hCx : ∀ w1 w2, C w1 → Ext w1 w2 → C w2) (hcl : ∀ (a : CacEntry) (v1 v2 : Value) (w1 : World), C w1 → Sl w1 (Old w1) v1 a.words → Sl w1 (Old w1) v2 a.block.ops → a.Ok → Calls Try.prog 106 #[.agg #[v1, .int .i64 a.block.pc, .int .i64 a.block.len, v2, .int .i64 a.block.fin, .int .i64 a.block.x, .int .i64 a.block.y, .int .i64 a.block.k], cap] w1 fun e w2 => e = .returned (.bool (p a)) ∧ Ext w1 w2) (hC : C w) (h : Sl w (Old w) v l) :
    Calls Try.prog 136 #[v, .func (.func 106) #[] #[cap]] w fun e w' => e = .returned (.int .i64 (findI p l)) ∧ Ext w w' := by
  obtain ⟨A, c, rfl, hl, hm⟩ := h.form
  unfold maxLen at hm
  have HCL := hide hcl
  have HCX := hide hCx
  have HC := hide hC
  clear hcl hCx hC
  go_enter Try.func136, Try.ntmps136
  go_wp2
  go_loopw [5, 8] (fun _ i wr => ∃ k : Nat, k ≤ l.length ∧ i = .int .i64 k ∧ Hid (∀ a, a ∈ l.take k → p a = false) ∧ Ext w wr) (fun _ i _ => l.length - (intOf i).toNat)
  case atStart => exact ⟨0, by omega, rfl, by intro a ha; simp at ha, Ext.refl _⟩
  case round =>
    obtain ⟨k, hk, rfl, HN, he⟩ := hrel
    by_cases hlt : k < l.length
    · obtain ⟨b, off, v1, v2, rfl, hbo, hk0, hv1, hv2, e0, e1, e2, e3, e4, e5, e6, e7⟩ := at_CacEntry (h.ext he) hlt
      have z0 : (0 : Int) ≤ (k : Int) := by omega
      have z1 : (k : Int) < (l.length : Int) := by omega
      go_wp2_with fail
      refine (HCL.out l[k] v1 v2 _ (HCX.out _ _ HC.out he) hv1 hv2 hk0).mono ?_
      rintro e w1 ⟨rfl, hx⟩
      have he1 := he.trans hx
      cases hq : p l[k]
      rotate_left
      · have HF := hide (findI_hit p l k hlt HN.out hq)
        go_wp2
        go_ret
        exact ⟨by rw [HF.out]; rfl, he1⟩
      · have HT := hide (take_next p l k hlt HN.out hq)
        go_wp2
        go_roundw
        case rel => exact ⟨k + 1, by omega, by go_num, HT.out, he1⟩
        case measure => simp [intOf]; omega
    · obtain rfl : k = l.length := by omega
      have HF := hide (findI_miss p l (by have := HN.out; rwa [List.take_length] at this))
      go_wp2
      go_ret
      exact ⟨by rw [HF.out]; rfl, he⟩

set_option maxHeartbeats 8000000 in
theorem deleteFunc_106 (l : List CacEntry) (v cap : Value) (p : CacEntry → Bool) (w0 w : World) (Fs : List (List Nat)) (xs : List Value) (C : World → Prop) (hCx : ∀ w1 w2, C w1 → Ext w1 w2 → C w2)
    (hCg : ∀ g w1 vs o, w0.heap.size ≤ g → C w1 → C (w1.setCells g o vs)) (hcl : ∀ (a : CacEntry) (v1 v2 : Value) (w1 : World), C w1 → Sl w1 (Old w1) v1 a.words → Sl w1 (Old w1) v2 a.block.ops → a.Ok → Calls Try.prog 106 #[.agg #[v1, .int .i64 a.block.pc, .int .i64 a.block.len, v2, .int .i64 a.block.fin, .int .i64 a.block.x, .int .i64 a.block.y, .int .i64 a.block.k], cap] w1 fun e w2 => e = .returned (.bool (p a)) ∧ Ext w1 w2) (hC : C w) (hA : App w0 w 72 v l Fs xs) (hn : l.length ≤ 4194304) :
    Calls Try.prog 104 #[v, .func (.func 106) #[] #[cap]] w fun e w' => ∃ r, e = .returned r ∧ RApp w' w0.heap.size 72 r (l.filter (fun a => !p a)) ∧ Ext w0 w' := by
  obtain ⟨A, c, rfl, hl, hm⟩ := hA.rapp.sl.form
  unfold maxLen at hm
  have hzv : ∀ w : World, (zeroValue 72).run Try.prog w = .ok (.agg #[.slice none 0 0, .int .i64 0, .int .i64 0, .slice none 0 0, .int .i64 0, .int .i64 0, .int .i64 0, .int .i64 0]) w := fun w => by kernel_rfl
  have HZV := hide hzv
  clear hzv
  have HCL := hide hcl
  have HCX := hide hCx
  have HCG := hide hCg
  have HC := hide hC
  clear hcl hCx hC hCg
  go_enter Try.func104, Try.ntmps104
  go_wp2_with fail
  refine (indexFunc_106 l _ cap p w C HCX.out HCL.out HC.out hA.rapp.sl).mono ?_
  rintro e w1 ⟨rfl, hx1⟩
  by_cases hall : ∀ a, a ∈ l → p a = false
  · have HF := hide (findI_miss p l hall)
    have HL := hide (filter_none p l hall)
    clear hall
    rw [HF.out]
    go_wp2
    go_ret
    exact ⟨_, rfl, by rw [HL.out]; exact (hA.call hx1).rapp, hA.ext.trans hx1⟩
  · obtain ⟨k, hk, hF, hpk, hpt⟩ := findI_some p l hall
    rw [hF]
    have HS := hide (filter_first p l k hk hpt hpk)
    clear hall hF hpk hpt
    obtain ⟨g, rfl, hM⟩ := (hA.call hx1).mrow (by omega)
    have hge := hM.ge
    have he1 : Ext w0 w1 := hA.ext.trans hx1
    have z9 : ((k : Int) == -1) = false := by simp; try omega
    go_wp2_with fail
    go_loopw [5, 6] (fun i j wr => ∃ (m n : Nat) (X : List CacEntry), m < n ∧ n ≤ l.length ∧ i = .int .i64 (m : Int) ∧ j = .int .i64 (n : Int) ∧ Hid (X.length = l.length) ∧ Hid (X.take m = (l.take n).filter (fun a => !p a)) ∧ Hid (X.drop n = l.drop n) ∧ MRow wr w0.heap.size g 72 c X ∧ Ext w0 wr ∧ Hid (C wr)) (fun _ j _ => l.length - (intOf j).toNat)
    case atStart => exact ⟨k, k + 1, l, by omega, by omega, rfl, by go_num, rfl, HS.out, rfl, hM, he1, HCX.out _ _ HC.out hx1⟩
    case round =>
      obtain ⟨m, n, X, hmn, hnl, rfl, rfl, HXL, HXT, HXD, hR, he, HCw⟩ := hrel
      have hgl : g < wr.heap.size := hR.row.lt
      by_cases hlt : n < l.length
      · have hXn : n < X.length := by have := HXL.out; omega
        have hXm : m < X.length := by omega
        have HX := hide (drop_at HXD.out hXn hlt)
        obtain ⟨vs, hv, hc⟩ := hR.els n _ (List.getElem?_eq_getElem hXn)
        obtain ⟨v1, v2, rfl, hk0, hv1, hv2⟩ := hv
        obtain ⟨A1, c1, rfl, -, -⟩ := hv1.form
        obtain ⟨A2, c2, rfl, -, -⟩ := hv2.form
        have e0 : wr.cell? ⟨g, n * 8, none⟩ = some (.slice A1 X[n].words.length c1) := hc 0 _ rfl
        have e1 : wr.cell? ⟨g, n * 8 + 1, none⟩ = some (.int .i64 (X[n].block.pc)) := hc 1 _ rfl
        have e2 : wr.cell? ⟨g, n * 8 + 2, none⟩ = some (.int .i64 (X[n].block.len)) := hc 2 _ rfl
        have e3 : wr.cell? ⟨g, n * 8 + 3, none⟩ = some ((.slice A2 X[n].block.ops.length c2)) := hc 3 _ rfl
        have e4 : wr.cell? ⟨g, n * 8 + 4, none⟩ = some (.int .i64 (X[n].block.fin)) := hc 4 _ rfl
        have e5 : wr.cell? ⟨g, n * 8 + 5, none⟩ = some (.int .i64 (X[n].block.x)) := hc 5 _ rfl
        have e6 : wr.cell? ⟨g, n * 8 + 6, none⟩ = some (.int .i64 (X[n].block.y)) := hc 6 _ rfl
        have e7 : wr.cell? ⟨g, n * 8 + 7, none⟩ = some (.int .i64 (X[n].block.k)) := hc 7 _ rfl
        clear hc
        have z0 : (0 : Int) ≤ (n : Int) := by omega
        have z1 : (n : Int) < (l.length : Int) := by omega
        go_wp2_with fail
        refine (HCL.out X[n] _ _ _ (HCX.out _ _ HCw.out ((Ext.refl wr).alloc _)) ((hv1.keep (fun _ _ _ => rfl) fun b hb => hb.2).ext ((Ext.refl wr).alloc _)) ((hv2.keep (fun _ _ _ => rfl) fun b hb => hb.2).ext ((Ext.refl wr).alloc _)) hk0).mono ?_
        rintro e w3 ⟨rfl, hx3⟩
        have hx : Ext wr w3 := Ext.trans Ext.auto hx3
        have hR3 := hR.ext hx
        have HC3 := hide (HCX.out _ _ HCw.out hx)
        have hBx : Bx w3 wr.heap.size [(.slice A1 X[n].words.length c1), .int .i64 (X[n].block.pc), .int .i64 (X[n].block.len), (.slice A2 X[n].block.ops.length c2), .int .i64 (X[n].block.fin), .int .i64 (X[n].block.x), .int .i64 (X[n].block.y), .int .i64 (X[n].block.k)] := hx3.bx (Bx.new wr #[(.slice A1 X[n].words.length c1), .int .i64 (X[n].block.pc), .int .i64 (X[n].block.len), (.slice A2 X[n].block.ops.length c2), .int .i64 (X[n].block.fin), .int .i64 (X[n].block.x), .int .i64 (X[n].block.y), .int .i64 (X[n].block.k)] 72) (by simp)
        have hyx : wr.heap.size < w3.heap.size := by have := hx3.size; simp at this; omega
        clear e0 e1 e2 e3 e4 e5 e6 e7
        cases hq : p X[n]
        · have hq' : p l[n] = false := HX.out ▸ hq
          have HQ := hide (filter_no p l n hlt hq')
          have x0 := hBx 0 _ rfl
          have x1 := hBx 1 _ rfl
          have x2 := hBx 2 _ rfl
          have x3 := hBx 3 _ rfl
          have x4 := hBx 4 _ rfl
          have x5 := hBx 5 _ rfl
          have x6 := hBx 6 _ rfl
          have x7 := hBx 7 _ rfl
          obtain ⟨us, hu, hd⟩ := hR3.els m _ (List.getElem?_eq_getElem hXm)
          obtain ⟨u1, u2, rfl, hk1, hu1, hu2⟩ := hu
          have d0 : w3.cell? ⟨g, m * 8, none⟩ = some u1 := hd 0 _ rfl
          have d1 : w3.cell? ⟨g, m * 8 + 1, none⟩ = some (.int .i64 (X[m].block.pc)) := hd 1 _ rfl
          have d2 : w3.cell? ⟨g, m * 8 + 2, none⟩ = some (.int .i64 (X[m].block.len)) := hd 2 _ rfl
          have d3 : w3.cell? ⟨g, m * 8 + 3, none⟩ = some (u2) := hd 3 _ rfl
          have d4 : w3.cell? ⟨g, m * 8 + 4, none⟩ = some (.int .i64 (X[m].block.fin)) := hd 4 _ rfl
          have d5 : w3.cell? ⟨g, m * 8 + 5, none⟩ = some (.int .i64 (X[m].block.x)) := hd 5 _ rfl
          have d6 : w3.cell? ⟨g, m * 8 + 6, none⟩ = some (.int .i64 (X[m].block.y)) := hd 6 _ rfl
          have d7 : w3.cell? ⟨g, m * 8 + 7, none⟩ = some (.int .i64 (X[m].block.k)) := hd 7 _ rfl
          clear hd
          have fg := hR3.row.fz
          have hgl3 := hR3.row.lt
          have y0 : (0 : Int) ≤ (m : Int) := by omega
          have y1 : (m : Int) < (l.length : Int) := by omega
          have hrep : Rep.rep w3 (fun q => q ≠ g ∧ q < w3.heap.size) [(.slice A1 X[n].words.length c1), .int .i64 (X[n].block.pc), .int .i64 (X[n].block.len), (.slice A2 X[n].block.ops.length c2), .int .i64 (X[n].block.fin), .int .i64 (X[n].block.x), .int .i64 (X[n].block.y), .int .i64 (X[n].block.k)] X[n] := ⟨_, _, rfl, hk0, hv1.keep (fun b o hb => hx.cell hb.2) (fun b hb => ⟨hb.1, Nat.lt_of_lt_of_le hb.2 hx.size⟩), hv2.keep (fun b o hb => hx.cell hb.2) (fun b hb => ⟨hb.1, Nat.lt_of_lt_of_le hb.2 hx.size⟩)⟩
          have hW := hR3.write hXm hrep
          have HCW := hide (HCG.out g w3 [(.slice A1 X[n].words.length c1), .int .i64 (X[n].block.pc), .int .i64 (X[n].block.len), (.slice A2 X[n].block.ops.length c2), .int .i64 (X[n].block.fin), .int .i64 (X[n].block.x), .int .i64 (X[n].block.y), .int .i64 (X[n].block.k)] (m * Rep.sz CacEntry) hge HC3.out)
          have hEW : Ext w0 (w3.setCells g (m * Rep.sz CacEntry) [(.slice A1 X[n].words.length c1), .int .i64 (X[n].block.pc), .int .i64 (X[n].block.len), (.slice A2 X[n].block.ops.length c2), .int .i64 (X[n].block.fin), .int .i64 (X[n].block.x), .int .i64 (X[n].block.y), .int .i64 (X[n].block.k)]) := Chg.ext (he.trans hx) (chg_sets g [(.slice A1 X[n].words.length c1), .int .i64 (X[n].block.pc), .int .i64 (X[n].block.len), (.slice A2 X[n].block.ops.length c2), .int .i64 (X[n].block.fin), .int .i64 (X[n].block.x), .int .i64 (X[n].block.y), .int .i64 (X[n].block.k)] _ (Chg.of_ext (Ext.refl _) _)) (fun x hx => by simp at hx; omega)
          go_wp2_with fail
          go_roundw
          case rel => exact ⟨m + 1, n + 1, X.set m X[n], by omega, by omega, by go_num, by go_num, by rw [Hid, List.length_set]; exact HXL.out, by rw [Hid, set_take _ hXm, HXT.out, HQ.out, HX.out], by rw [Hid, set_drop _ (by omega)]; exact drop_next HXD.out, hW, hEW, HCW.out⟩
          case measure => (simp [intOf]; try omega)
        · have hq' : p l[n] = true := HX.out ▸ hq
          have HQ := hide (filter_yes p l n hlt hq')
          go_wp2_with fail
          go_roundw
          case rel => exact ⟨m, n + 1, X, by omega, by omega, rfl, by go_num, HXL.out, by rw [Hid, HQ.out]; exact HXT.out, drop_next HXD.out, hR3, he.trans hx, HC3.out⟩
          case measure => (simp [intOf]; try omega)
      · obtain rfl : n = l.length := by omega
        have hXm : m ≤ X.length := by have := HXL.out; omega
        have HXT' : Hid (X.take m = l.filter (fun a => !p a)) := by rw [Hid, HXT.out, List.take_length]
        have z0 : (0 : Int) ≤ (m : Int) := by omega
        have z1 : (m : Int) ≤ (l.length : Int) := by omega
        have z2 : (m : Int) ≤ (c : Int) := by omega
        have z3 : ¬ c = m := by omega
        have z4 : m < c := by omega
        have hcut := fun vs => hR.cut hXm vs
        have hsz8 : Rep.sz CacEntry = 8 := rfl
        have h1c : ∀ j (hj : j < (Value.agg #[.slice none 0 0, .int .i64 0, .int .i64 0, .slice none 0 0, .int .i64 0, .int .i64 0, .int .i64 0, .int .i64 0]).cells.size), ((Value.agg #[.slice none 0 0, .int .i64 0, .int .i64 0, .slice none 0 0, .int .i64 0, .int .i64 0, .int .i64 0, .int .i64 0]).cells[j]).oneCell' = true := by decide
        have hc1 : ∀ j, j < (l.length - m) * 8 → (wr.cell? ⟨g, m * 8 + j, none⟩).isSome = true := fun j hj => hR.row.some (by rw [hsz8]; omega)
        go_wp2_with (refine wpList_clear_any (s := 8) rfl _ 68 72 rfl Try.underlying68 HZV.out rfl (by omega) rfl h1c hc1 (fun j hj => hR.row.fz _) ?_; intro vs)
        go_ret
        have hRf := hcut vs
        exact ⟨_, rfl, by rw [← HXT'.out]; have := hRf.rapp (i := m) (by simp; omega); rw [List.take_take, Nat.min_self] at this; exact this, Chg.ext he (chg_sets g vs _ (Chg.of_ext (Ext.refl _) _)) (fun x hx => by simp at hx; omega)⟩

set_option maxHeartbeats 2000000 in
theorem indexFunc_116 (l : List CacEntry) (v cap : Value) (p : CacEntry → Bool) (w : World) (C : World → Prop) (hCx : ∀ w1 w2, C w1 → Ext w1 w2 → C w2) (hcl : ∀ (a : CacEntry) (v1 v2 : Value) (w1 : World), C w1 → Sl w1 (Old w1) v1 a.words → Sl w1 (Old w1) v2 a.block.ops → a.Ok → Calls Try.prog 116 #[.agg #[v1, .int .i64 a.block.pc, .int .i64 a.block.len, v2, .int .i64 a.block.fin, .int .i64 a.block.x, .int .i64 a.block.y, .int .i64 a.block.k], cap] w1 fun e w2 => e = .returned (.bool (p a)) ∧ Ext w1 w2) (hC : C w) (h : Sl w (Old w) v l) :
    Calls Try.prog 136 #[v, .func (.func 116) #[] #[cap]] w fun e w' => e = .returned (.int .i64 (findI p l)) ∧ Ext w w' := by
  obtain ⟨A, c, rfl, hl, hm⟩ := h.form
  unfold maxLen at hm
  have HCL := hide hcl
  have HCX := hide hCx
  have HC := hide hC
  clear hcl hCx hC
  go_enter Try.func136, Try.ntmps136
  go_wp2
  go_loopw [5, 8] (fun _ i wr => ∃ k : Nat, k ≤ l.length ∧ i = .int .i64 k ∧ Hid (∀ a, a ∈ l.take k → p a = false) ∧ Ext w wr) (fun _ i _ => l.length - (intOf i).toNat)
  case atStart => exact ⟨0, by omega, rfl, by intro a ha; simp at ha, Ext.refl _⟩
  case round =>
    obtain ⟨k, hk, rfl, HN, he⟩ := hrel
    by_cases hlt : k < l.length
    · obtain ⟨b, off, v1, v2, rfl, hbo, hk0, hv1, hv2, e0, e1, e2, e3, e4, e5, e6, e7⟩ := at_CacEntry (h.ext he) hlt
      have z0 : (0 : Int) ≤ (k : Int) := by omega
      have z1 : (k : Int) < (l.length : Int) := by omega
      go_wp2_with fail
      refine (HCL.out l[k] v1 v2 _ (HCX.out _ _ HC.out he) hv1 hv2 hk0).mono ?_
      rintro e w1 ⟨rfl, hx⟩
      have he1 := he.trans hx
      cases hq : p l[k]
      rotate_left
      · have HF := hide (findI_hit p l k hlt HN.out hq)
        go_wp2
        go_ret
        exact ⟨by rw [HF.out]; rfl, he1⟩
      · have HT := hide (take_next p l k hlt HN.out hq)
        go_wp2
        go_roundw
        case rel => exact ⟨k + 1, by omega, by go_num, HT.out, he1⟩
        case measure => simp [intOf]; omega
    · obtain rfl : k = l.length := by omega
      have HF := hide (findI_miss p l (by have := HN.out; rwa [List.take_length] at this))
      go_wp2
      go_ret
      exact ⟨by rw [HF.out]; rfl, he⟩

set_option maxHeartbeats 8000000 in
theorem deleteFunc_116 (l : List CacEntry) (v cap : Value) (p : CacEntry → Bool) (w0 w : World) (Fs : List (List Nat)) (xs : List Value) (C : World → Prop) (hCx : ∀ w1 w2, C w1 → Ext w1 w2 → C w2)
    (hCg : ∀ g w1 vs o, w0.heap.size ≤ g → C w1 → C (w1.setCells g o vs)) (hcl : ∀ (a : CacEntry) (v1 v2 : Value) (w1 : World), C w1 → Sl w1 (Old w1) v1 a.words → Sl w1 (Old w1) v2 a.block.ops → a.Ok → Calls Try.prog 116 #[.agg #[v1, .int .i64 a.block.pc, .int .i64 a.block.len, v2, .int .i64 a.block.fin, .int .i64 a.block.x, .int .i64 a.block.y, .int .i64 a.block.k], cap] w1 fun e w2 => e = .returned (.bool (p a)) ∧ Ext w1 w2) (hC : C w) (hA : App w0 w 72 v l Fs xs) (hn : l.length ≤ 4194304) :
    Calls Try.prog 104 #[v, .func (.func 116) #[] #[cap]] w fun e w' => ∃ r, e = .returned r ∧ RApp w' w0.heap.size 72 r (l.filter (fun a => !p a)) ∧ Ext w0 w' := by
  obtain ⟨A, c, rfl, hl, hm⟩ := hA.rapp.sl.form
  unfold maxLen at hm
  have hzv : ∀ w : World, (zeroValue 72).run Try.prog w = .ok (.agg #[.slice none 0 0, .int .i64 0, .int .i64 0, .slice none 0 0, .int .i64 0, .int .i64 0, .int .i64 0, .int .i64 0]) w := fun w => by kernel_rfl
  have HZV := hide hzv
  clear hzv
  have HCL := hide hcl
  have HCX := hide hCx
  have HCG := hide hCg
  have HC := hide hC
  clear hcl hCx hC hCg
  go_enter Try.func104, Try.ntmps104
  go_wp2_with fail
  refine (indexFunc_116 l _ cap p w C HCX.out HCL.out HC.out hA.rapp.sl).mono ?_
  rintro e w1 ⟨rfl, hx1⟩
  by_cases hall : ∀ a, a ∈ l → p a = false
  · have HF := hide (findI_miss p l hall)
    have HL := hide (filter_none p l hall)
    clear hall
    rw [HF.out]
    go_wp2
    go_ret
    exact ⟨_, rfl, by rw [HL.out]; exact (hA.call hx1).rapp, hA.ext.trans hx1⟩
  · obtain ⟨k, hk, hF, hpk, hpt⟩ := findI_some p l hall
    rw [hF]
    have HS := hide (filter_first p l k hk hpt hpk)
    clear hall hF hpk hpt
    obtain ⟨g, rfl, hM⟩ := (hA.call hx1).mrow (by omega)
    have hge := hM.ge
    have he1 : Ext w0 w1 := hA.ext.trans hx1
    have z9 : ((k : Int) == -1) = false := by simp; try omega
    go_wp2_with fail
    go_loopw [5, 6] (fun i j wr => ∃ (m n : Nat) (X : List CacEntry), m < n ∧ n ≤ l.length ∧ i = .int .i64 (m : Int) ∧ j = .int .i64 (n : Int) ∧ Hid (X.length = l.length) ∧ Hid (X.take m = (l.take n).filter (fun a => !p a)) ∧ Hid (X.drop n = l.drop n) ∧ MRow wr w0.heap.size g 72 c X ∧ Ext w0 wr ∧ Hid (C wr)) (fun _ j _ => l.length - (intOf j).toNat)
    case atStart => exact ⟨k, k + 1, l, by omega, by omega, rfl, by go_num, rfl, HS.out, rfl, hM, he1, HCX.out _ _ HC.out hx1⟩
    case round =>
      obtain ⟨m, n, X, hmn, hnl, rfl, rfl, HXL, HXT, HXD, hR, he, HCw⟩ := hrel
      have hgl : g < wr.heap.size := hR.row.lt
      by_cases hlt : n < l.length
      · have hXn : n < X.length := by have := HXL.out; omega
        have hXm : m < X.length := by omega
        have HX := hide (drop_at HXD.out hXn hlt)
        obtain ⟨vs, hv, hc⟩ := hR.els n _ (List.getElem?_eq_getElem hXn)
        obtain ⟨v1, v2, rfl, hk0, hv1, hv2⟩ := hv
        obtain ⟨A1, c1, rfl, -, -⟩ := hv1.form
        obtain ⟨A2, c2, rfl, -, -⟩ := hv2.form
        have e0 : wr.cell? ⟨g, n * 8, none⟩ = some (.slice A1 X[n].words.length c1) := hc 0 _ rfl
        have e1 : wr.cell? ⟨g, n * 8 + 1, none⟩ = some (.int .i64 (X[n].block.pc)) := hc 1 _ rfl
        have e2 : wr.cell? ⟨g, n * 8 + 2, none⟩ = some (.int .i64 (X[n].block.len)) := hc 2 _ rfl
        have e3 : wr.cell? ⟨g, n * 8 + 3, none⟩ = some ((.slice A2 X[n].block.ops.length c2)) := hc 3 _ rfl
        have e4 : wr.cell? ⟨g, n * 8 + 4, none⟩ = some (.int .i64 (X[n].block.fin)) := hc 4 _ rfl
        have e5 : wr.cell? ⟨g, n * 8 + 5, none⟩ = some (.int .i64 (X[n].block.x)) := hc 5 _ rfl
        have e6 : wr.cell? ⟨g, n * 8 + 6, none⟩ = some (.int .i64 (X[n].block.y)) := hc 6 _ rfl
        have e7 : wr.cell? ⟨g, n * 8 + 7, none⟩ = some (.int .i64 (X[n].block.k)) := hc 7 _ rfl
        clear hc
        have z0 : (0 : Int) ≤ (n : Int) := by omega
        have z1 : (n : Int) < (l.length : Int) := by omega
        go_wp2_with fail
        refine (HCL.out X[n] _ _ _ (HCX.out _ _ HCw.out ((Ext.refl wr).alloc _)) ((hv1.keep (fun _ _ _ => rfl) fun b hb => hb.2).ext ((Ext.refl wr).alloc _)) ((hv2.keep (fun _ _ _ => rfl) fun b hb => hb.2).ext ((Ext.refl wr).alloc _)) hk0).mono ?_
        rintro e w3 ⟨rfl, hx3⟩
        have hx : Ext wr w3 := Ext.trans Ext.auto hx3
        have hR3 := hR.ext hx
        have HC3 := hide (HCX.out _ _ HCw.out hx)
        have hBx : Bx w3 wr.heap.size [(.slice A1 X[n].words.length c1), .int .i64 (X[n].block.pc), .int .i64 (X[n].block.len), (.slice A2 X[n].block.ops.length c2), .int .i64 (X[n].block.fin), .int .i64 (X[n].block.x), .int .i64 (X[n].block.y), .int .i64 (X[n].block.k)] := hx3.bx (Bx.new wr #[(.slice A1 X[n].words.length c1), .int .i64 (X[n].block.pc), .int .i64 (X[n].block.len), (.slice A2 X[n].block.ops.length c2), .int .i64 (X[n].block.fin), .int .i64 (X[n].block.x), .int .i64 (X[n].block.y), .int .i64 (X[n].block.k)] 72) (by simp)
        have hyx : wr.heap.size < w3.heap.size := by have := hx3.size; simp at this; omega
        clear e0 e1 e2 e3 e4 e5 e6 e7
        cases hq : p X[n]
        · have hq' : p l[n] = false := HX.out ▸ hq
          have HQ := hide (filter_no p l n hlt hq')
          have x0 := hBx 0 _ rfl
          have x1 := hBx 1 _ rfl
          have x2 := hBx 2 _ rfl
          have x3 := hBx 3 _ rfl
          have x4 := hBx 4 _ rfl
          have x5 := hBx 5 _ rfl
          have x6 := hBx 6 _ rfl
          have x7 := hBx 7 _ rfl
          obtain ⟨us, hu, hd⟩ := hR3.els m _ (List.getElem?_eq_getElem hXm)
          obtain ⟨u1, u2, rfl, hk1, hu1, hu2⟩ := hu
          have d0 : w3.cell? ⟨g, m * 8, none⟩ = some u1 := hd 0 _ rfl
          have d1 : w3.cell? ⟨g, m * 8 + 1, none⟩ = some (.int .i64 (X[m].block.pc)) := hd 1 _ rfl
          have d2 : w3.cell? ⟨g, m * 8 + 2, none⟩ = some (.int .i64 (X[m].block.len)) := hd 2 _ rfl
          have d3 : w3.cell? ⟨g, m * 8 + 3, none⟩ = some (u2) := hd 3 _ rfl
          have d4 : w3.cell? ⟨g, m * 8 + 4, none⟩ = some (.int .i64 (X[m].block.fin)) := hd 4 _ rfl
          have d5 : w3.cell? ⟨g, m * 8 + 5, none⟩ = some (.int .i64 (X[m].block.x)) := hd 5 _ rfl
          have d6 : w3.cell? ⟨g, m * 8 + 6, none⟩ = some (.int .i64 (X[m].block.y)) := hd 6 _ rfl
          have d7 : w3.cell? ⟨g, m * 8 + 7, none⟩ = some (.int .i64 (X[m].block.k)) := hd 7 _ rfl
          clear hd
          have fg := hR3.row.fz
          have hgl3 := hR3.row.lt
          have y0 : (0 : Int) ≤ (m : Int) := by omega
          have y1 : (m : Int) < (l.length : Int) := by omega
          have hrep : Rep.rep w3 (fun q => q ≠ g ∧ q < w3.heap.size) [(.slice A1 X[n].words.length c1), .int .i64 (X[n].block.pc), .int .i64 (X[n].block.len), (.slice A2 X[n].block.ops.length c2), .int .i64 (X[n].block.fin), .int .i64 (X[n].block.x), .int .i64 (X[n].block.y), .int .i64 (X[n].block.k)] X[n] := ⟨_, _, rfl, hk0, hv1.keep (fun b o hb => hx.cell hb.2) (fun b hb => ⟨hb.1, Nat.lt_of_lt_of_le hb.2 hx.size⟩), hv2.keep (fun b o hb => hx.cell hb.2) (fun b hb => ⟨hb.1, Nat.lt_of_lt_of_le hb.2 hx.size⟩)⟩
          have hW := hR3.write hXm hrep
          have HCW := hide (HCG.out g w3 [(.slice A1 X[n].words.length c1), .int .i64 (X[n].block.pc), .int .i64 (X[n].block.len), (.slice A2 X[n].block.ops.length c2), .int .i64 (X[n].block.fin), .int .i64 (X[n].block.x), .int .i64 (X[n].block.y), .int .i64 (X[n].block.k)] (m * Rep.sz CacEntry) hge HC3.out)
          have hEW : Ext w0 (w3.setCells g (m * Rep.sz CacEntry) [(.slice A1 X[n].words.length c1), .int .i64 (X[n].block.pc), .int .i64 (X[n].block.len), (.slice A2 X[n].block.ops.length c2), .int .i64 (X[n].block.fin), .int .i64 (X[n].block.x), .int .i64 (X[n].block.y), .int .i64 (X[n].block.k)]) := Chg.ext (he.trans hx) (chg_sets g [(.slice A1 X[n].words.length c1), .int .i64 (X[n].block.pc), .int .i64 (X[n].block.len), (.slice A2 X[n].block.ops.length c2), .int .i64 (X[n].block.fin), .int .i64 (X[n].block.x), .int .i64 (X[n].block.y), .int .i64 (X[n].block.k)] _ (Chg.of_ext (Ext.refl _) _)) (fun x hx => by simp at hx; omega)
          go_wp2_with fail
          go_roundw
          case rel => exact ⟨m + 1, n + 1, X.set m X[n], by omega, by omega, by go_num, by go_num, by rw [Hid, List.length_set]; exact HXL.out, by rw [Hid, set_take _ hXm, HXT.out, HQ.out, HX.out], by rw [Hid, set_drop _ (by omega)]; exact drop_next HXD.out, hW, hEW, HCW.out⟩
          case measure => (simp [intOf]; try omega)
        · have hq' : p l[n] = true := HX.out ▸ hq
          have HQ := hide (filter_yes p l n hlt hq')
          go_wp2_with fail
          go_roundw
          case rel => exact ⟨m, n + 1, X, by omega, by omega, rfl, by go_num, HXL.out, by rw [Hid, HQ.out]; exact HXT.out, drop_next HXD.out, hR3, he.trans hx, HC3.out⟩
          case measure => (simp [intOf]; try omega)
      · obtain rfl : n = l.length := by omega
        have hXm : m ≤ X.length := by have := HXL.out; omega
        have HXT' : Hid (X.take m = l.filter (fun a => !p a)) := by rw [Hid, HXT.out, List.take_length]
        have z0 : (0 : Int) ≤ (m : Int) := by omega
        have z1 : (m : Int) ≤ (l.length : Int) := by omega
        have z2 : (m : Int) ≤ (c : Int) := by omega
        have z3 : ¬ c = m := by omega
        have z4 : m < c := by omega
        have hcut := fun vs => hR.cut hXm vs
        have hsz8 : Rep.sz CacEntry = 8 := rfl
        have h1c : ∀ j (hj : j < (Value.agg #[.slice none 0 0, .int .i64 0, .int .i64 0, .slice none 0 0, .int .i64 0, .int .i64 0, .int .i64 0, .int .i64 0]).cells.size), ((Value.agg #[.slice none 0 0, .int .i64 0, .int .i64 0, .slice none 0 0, .int .i64 0, .int .i64 0, .int .i64 0, .int .i64 0]).cells[j]).oneCell' = true := by decide
        have hc1 : ∀ j, j < (l.length - m) * 8 → (wr.cell? ⟨g, m * 8 + j, none⟩).isSome = true := fun j hj => hR.row.some (by rw [hsz8]; omega)
        go_wp2_with (refine wpList_clear_any (s := 8) rfl _ 68 72 rfl Try.underlying68 HZV.out rfl (by omega) rfl h1c hc1 (fun j hj => hR.row.fz _) ?_; intro vs)
        go_ret
        have hRf := hcut vs
        exact ⟨_, rfl, by rw [← HXT'.out]; have := hRf.rapp (i := m) (by simp; omega); rw [List.take_take, Nat.min_self] at this; exact this, Chg.ext he (chg_sets g vs _ (Chg.of_ext (Ext.refl _) _)) (fun x hx => by simp at hx; omega)⟩

end Go.Proofs.Ytjemadbhpbbhlaa
