/-
  ReadP
-/
import Derived.Test.YteaacelfnkiboaaZBytesS
import Derived.Test.YteaacelfnkiboaaZWords
import Derived.Test.YteaacelfnkiboaaZOptDead
import Derived.Laws.BytesArg
namespace Go.Proofs.Yteaacelfnkiboaa
open Go.RowKit

set_option linter.unusedVariables false
set_option linter.unusedSimpArgs false
set_option maxRecDepth 100000

def nB (bs : List UInt8) (i : Nat) : Int := (((bs[i]?).getD 0).toNat : Int)
def n2 (bs : List UInt8) (i : Nat) : Int := nB bs i * 256 + nB bs (i + 1)
def readOp (bs : List UInt8) (i : Nat) : IrOp := ⟨nB bs i, nB bs (i + 1), nB bs (i + 2), n2 bs (i + 3), nB bs (i + 5)⟩
/-- The operations that the bytes behind the head say, so many. -/
def readOps (bs : List UInt8) : Nat → List IrOp
  | 0 => []
  | k + 1 => readOps bs k ++ [readOp bs (7 + 6 * k)]
def readB (bs : List UInt8) : IrBlock := ⟨nB bs 0, nB bs 1, readOps bs ((bs.length - 7) / 6), nB bs 2, nB bs 3, nB bs 4, n2 bs 5⟩
def lenB (bs : List UInt8) : Bool := decide (7 ≤ bs.length) && decide ((bs.length - 7) % 6 = 0) && decide (bs.length ≤ 295)
def irReadOk (bs : List UInt8) : Bool := lenB bs && irOkB (readB bs)
def irRead (bs : List UInt8) : IrBlock := if irReadOk bs then readB bs else emptyBlock
theorem lenB_yes {bs : List UInt8} (h : lenB bs = true) : 7 ≤ bs.length ∧ (bs.length - 7) % 6 = 0 ∧ bs.length ≤ 295 := by
  unfold lenB at h; simp at h; exact ⟨h.1.1, h.1.2, h.2⟩
theorem nB_at {bs : List UInt8} {i : Nat} (h : i < bs.length) : nB bs i = (bs[i].toNat : Int) := by simp [nB, List.getElem?_eq_getElem h]
theorem nB_bd (bs : List UInt8) (i : Nat) : 0 ≤ nB bs i ∧ nB bs i ≤ 255 := by
  unfold nB
  have := ((bs[i]?).getD 0).toNat_lt
  omega
theorem n2_bd (bs : List UInt8) (i : Nat) : 0 ≤ n2 bs i ∧ n2 bs i ≤ 65535 := by
  have h1 := nB_bd bs i; have h2 := nB_bd bs (i + 1)
  unfold n2; omega
theorem readOps_length (bs : List UInt8) : ∀ k, (readOps bs k).length = k
  | 0 => rfl
  | k + 1 => by simp [readOps, readOps_length bs k]
theorem readOps_succ (bs : List UInt8) (k : Nat) : readOps bs (k + 1) = readOps bs k ++ [readOp bs (7 + 6 * k)] := rfl
theorem fitsB {x : Int} (h : 0 ≤ x ∧ x ≤ 65535) : Fits x := fits_small (by omega) (by omega)
theorem nB_fit (bs : List UInt8) (i : Nat) : Fits (nB bs i) := fitsB (by have := nB_bd bs i; omega)
theorem n2_fit (bs : List UInt8) (i : Nat) : Fits (n2 bs i) := fitsB (n2_bd bs i)
theorem readOp_ok (bs : List UInt8) (i : Nat) : (readOp bs i).Ok := ⟨nB_fit _ _, nB_fit _ _, nB_fit _ _, n2_fit _ _, nB_fit _ _⟩
theorem readB_ok (bs : List UInt8) : (readB bs).Ok := ⟨nB_fit _ _, nB_fit _ _, nB_fit _ _, nB_fit _ _, nB_fit _ _, n2_fit _ _⟩
theorem b8_nB {bs : List UInt8} {i : Nat} (h : i < bs.length) : b8 (nB bs i) = bs[i] := by
  rw [nB_at h]
  have h2 := bs[i].toNat_lt
  apply UInt8.toNat_inj.1
  have := b8_val (bs[i].toNat : Int)
  omega
theorem b8_hi {bs : List UInt8} {i : Nat} (h : i < bs.length) : b8 (n2 bs i / 256) = bs[i] := by
  have h1 := nB_bd bs i; have h2 := nB_bd bs (i + 1)
  rw [show n2 bs i / 256 = nB bs i by unfold n2; omega]
  exact b8_nB h
theorem b8_lo {bs : List UInt8} {i : Nat} (h : i + 1 < bs.length) : b8 (n2 bs i) = bs[i + 1] := by
  have h1 := nB_bd bs i; have h2 := nB_bd bs (i + 1)
  rw [← b8_mod, show n2 bs i % 256 = nB bs (i + 1) by unfold n2; omega]
  exact b8_nB h
theorem opBytes_read {bs : List UInt8} {i : Nat} (h : i + 6 ≤ bs.length) : opBytes (readOp bs i) = (bs.drop i).take 6 := by
  rw [List.drop_eq_getElem_cons (by omega : i < bs.length), List.drop_eq_getElem_cons (by omega : i + 1 < bs.length), List.drop_eq_getElem_cons (by omega : i + 1 + 1 < bs.length), List.drop_eq_getElem_cons (by omega : i + 1 + 1 + 1 < bs.length), List.drop_eq_getElem_cons (by omega : i + 1 + 1 + 1 + 1 < bs.length), List.drop_eq_getElem_cons (by omega : i + 1 + 1 + 1 + 1 + 1 < bs.length)]
  show [b8 (nB bs i), b8 (nB bs (i + 1)), b8 (nB bs (i + 2)), b8 (n2 bs (i + 3) / 256), b8 (n2 bs (i + 3)), b8 (nB bs (i + 5))] = _
  rw [b8_nB (by omega), b8_nB (by omega), b8_nB (by omega), b8_hi (by omega), b8_lo (by omega), b8_nB (by omega)]
  rfl
theorem flat_read (bs : List UInt8) : ∀ k, 7 + 6 * k ≤ bs.length → (readOps bs k).flatMap opBytes = (bs.drop 7).take (6 * k)
  | 0, _ => by simp [readOps]
  | k + 1, h => by
    rw [readOps_succ, List.flatMap_append, flat_read bs k (by omega), List.flatMap_cons, List.flatMap_nil, List.append_nil, opBytes_read (by omega), show 6 * (k + 1) = 6 * k + 6 by omega, List.take_add, List.drop_drop]
theorem bytes_read {bs : List UInt8} (h : lenB bs = true) : bytesB (readB bs) = bs := by
  obtain ⟨h1, h2, h3⟩ := lenB_yes h
  have hd : 6 * ((bs.length - 7) / 6) = bs.length - 7 := by omega
  unfold bytesB
  show [b8 (nB bs 0), b8 (nB bs 1), b8 (nB bs 2), b8 (nB bs 3), b8 (nB bs 4), b8 (n2 bs 5 / 256), b8 (n2 bs 5)] ++ (readOps bs ((bs.length - 7) / 6)).flatMap opBytes = bs
  rw [flat_read bs _ (by omega), hd, List.take_of_length_le (by simp), b8_nB (by omega), b8_nB (by omega), b8_nB (by omega), b8_nB (by omega), b8_nB (by omega), b8_hi (by omega), b8_lo (by omega)]
  conv => rhs; rw [← List.take_append_drop 7 bs]
  congr 1
  refine List.ext_getElem (by simp; omega) fun i hi1 hi2 => ?_
  simp at hi1
  rcases i with _ | _ | _ | _ | _ | _ | _ | i
  all_goals first | (simp; done) | (exfalso; omega)
theorem irBytes_read {bs : List UInt8} (h : lenB bs = true) : decide (irBytes (readB bs) = bs) = irOkB (readB bs) := by
  unfold irBytes
  cases hq : irOkB (readB bs) with
  | true => rw [if_pos rfl, bytes_read h]; simp
  | false =>
    have := (lenB_yes h).1
    rw [if_neg (by simp)]
    cases bs with
    | nil => simp at this
    | cons a l => simp
theorem irRead_yes {bs : List UInt8} (h : lenB bs = true) (h2 : irOkB (readB bs) = true) : irRead bs = readB bs ∧ irReadOk bs = true := by
  have : irReadOk bs = true := by unfold irReadOk; rw [h, h2]; rfl
  exact ⟨by unfold irRead; rw [if_pos this], this⟩
theorem irRead_no {bs : List UInt8} (h : irReadOk bs = false) : irRead bs = emptyBlock := by unfold irRead; rw [h]; rfl
theorem irRead_no1 {bs : List UInt8} (h : lenB bs = false) : irReadOk bs = false := by unfold irReadOk; rw [h]; rfl
theorem irRead_no2 {bs : List UInt8} (h : irOkB (readB bs) = false) : irReadOk bs = false := by unfold irReadOk; rw [h]; simp
theorem FApp.done {α : Type} [Flat α] {w w0 wr : World} {e : TypeId} {A : Option Addr} {n c : Nat} {l : List α} {Fs : List (List Nat)} {xs : List Value} (h : FApp w w0.heap.size wr e (.slice A n c) l Fs xs) : ∃ F, OwnSl wr (.slice A n c) l F ∧ Fr w0 wr F := by
  by_cases hl : l = []
  · subst hl
    obtain ⟨F0, hO, -⟩ := h.app.done
    obtain ⟨A', c', h1, h2, h3, h0, -, -⟩ := hO
    exact ⟨[], ⟨A', c', h1, h2, h3, h0, fun _ => rfl, fun q => absurd rfl q⟩, Fr.nil _ _⟩
  · obtain ⟨g9, cap9, hv, hc9, hm9, hl9, hR9⟩ := h.app.toRow (by cases l with | nil => exact absurd rfl hl | cons a t => simp)
    injection hv with e1 e2 e3
    subst e1 e2 e3
    exact hR9.own rfl hc9 hm9 (h.low g9 rfl)
theorem i64_or_nat (a b : Nat) (ha : a < 65536) (hb : b < 65536) : bits .or .i64 (a : Int) (b : Int) = ((a ||| b : Nat) : Int) := by
  have hx : a ||| b < 2 ^ 16 := Nat.or_lt_two_pow (by omega) (by omega)
  show IntKind.i64.wrap ((BitVec.ofInt 64 (a : Int) ||| BitVec.ofInt 64 (b : Int)).toNat : Int) = _
  rw [BitVec.toNat_or, ofInt_i64 a (by omega), ofInt_i64 b (by omega), IntKind.wrap_i64]
  omega
theorem or_256 (a b : Int) (ha0 : 0 ≤ a) (ha : a < 256) (hb0 : 0 ≤ b) (hb : b < 256) : bits .or .i64 (a * 256) b = a * 256 + b := by
  have h := i64_or_nat (a.toNat * 256) b.toNat (by omega) (by omega)
  have h2 : a.toNat * 256 ||| b.toNat = a.toNat * 256 + b.toNat := by
    have := Nat.shiftLeft_add_eq_or_of_lt (i := 8) (b := b.toNat) (by omega) a.toNat
    rw [Nat.shiftLeft_eq] at this
    exact this.symm
  rw [h2] at h
  rwa [show ((a.toNat * 256 : Nat) : Int) = a * 256 by omega, Int.toNat_of_nonneg hb0, show ((a.toNat * 256 + b.toNat : Nat) : Int) = a * 256 + b by omega] at h
/-- The cells of bytes. -/
theorem cellB {w : World} {S : Nat → Prop} {b off n c : Nat} {bs : List UInt8} (h : Sl w S (.slice (some ⟨b, off, none⟩) n c) bs) {i : Nat} (hi : i < bs.length) : w.cell? ⟨b, off + i, none⟩ = some (.int .u8 (nB bs i)) := by
  obtain ⟨b', off', e, -, h'⟩ := at_UInt8 h hi
  injection e with e
  injection e with e1 e2
  subst e1 e2
  rw [nB_at hi]; exact h'

theorem number_any (a b : Int) (ha0 : 0 ≤ a) (ha : a < 256) (hb0 : 0 ≤ b) (hb : b < 256) (w : World) : Calls Try.prog 44 #[.int .u8 a, .int .u8 b] w fun e w' => e = .returned (.int .i64 (a * 256 + b)) ∧ w = w' := by
  have HB := hide (or_256 a b ha0 ha hb0 hb)
  go_enter Try.func44, Try.ntmps44
  go_wp2
  go_ret
  exact ⟨by rw [← HB.out]; rfl, rfl⟩

theorem strOf_bytes (bs : List UInt8) : strOfNums (bs.map fun b => (b.toNat : Int)) = ⟨bs.toArray⟩ := by
  apply ByteArray.ext
  apply Array.toList_inj.1
  rw [strOfNums_data, List.map_map]
  show bs.map _ = bs
  conv => rhs; rw [← List.map_id bs]
  refine List.map_congr_left fun b _ => ?_
  simp
theorem conv_bytes {w : World} {S : Nat → Prop} {A : Option Addr} {n c : Nat} {bs : List UInt8} (h : Sl w S (.slice A n c) bs) : (convert 22 9 (.slice A n c)).run Try.prog w = .ok (.string ⟨bs.toArray⟩) w := by
  have hn : n = bs.length := by
    obtain ⟨A', c', h1, _⟩ := h
    injection h1
  cases A with
  | none =>
    have hb : bs = [] := by
      cases bs with
      | nil => rfl
      | cons b l =>
        obtain ⟨b', off', e, -, -⟩ := at_UInt8 h (i := 0) (by simp)
        exact absurd e (by simp)
    subst hb
    exact run_convert_bytes_nil w 22 5 Try.underlying22 Try.underlying5 n c 9 Try.underlying9
  | some a =>
    by_cases hb : bs = []
    · subst hb
      subst hn
      rw [run_convert_bytes_string w 22 9 5 _ _ _ Try.underlying22 Try.underlying5 Try.underlying9]
      have := run_bytesToString (P := Try.prog) w a 0 c [] (by simp [loadCells, loadCellsFrom, Sem.run_pure])
      exact this
    · obtain ⟨b', off', e, -, -⟩ := at_UInt8 h (i := 0) (by cases bs with | nil => exact absurd rfl hb | cons b l => simp)
      injection e with e
      subst e
      have := run_convert_bytes_arg (P := Try.prog) w 22 5 Try.underlying22 Try.underlying5 b' off' n c (bs.map fun b => (b.toNat : Int)) (by simp [hn]) (fun i hi => by
        rw [cellB h (by omega), List.getD_eq_getElem?_getD, List.getElem?_map, List.getElem?_eq_getElem (by omega : i < bs.length), nB_at (by omega)]
        rfl) 9 Try.underlying9
      rwa [strOf_bytes] at this

theorem bytesEqual_any (l1 l2 : List UInt8) (v1 v2 : Value) (w : World) (h1 : Sl w (Old w) v1 l1) (h2 : Sl w (Old w) v2 l2) : Calls Try.prog 45 #[v1, v2] w fun e w' => e = .returned (.bool (decide (l1 = l2))) ∧ Ext w w' := by
  obtain ⟨A1, c1, rfl, hl1, hm1⟩ := h1.form
  obtain ⟨A2, c2, rfl, hl2, hm2⟩ := h2.form
  have k1 := conv_bytes h1
  have k2 := conv_bytes h2
  clear h1 h2
  go_enter Try.func45, Try.ntmps45
  go_wp2
  go_ret
  exact ⟨by (try simp); (try (rw [Bool.eq_iff_iff]; simp)), Ext.auto⟩

theorem number_ext (bs : List UInt8) (i j : Nat) (hj : j = i + 1) (w : World) : Calls Try.prog 44 #[.int .u8 (nB bs i), .int .u8 (nB bs j)] w fun e w' => e = .returned (.int .i64 (n2 bs i)) ∧ Ext w w' := by
  subst hj
  have h1 := nB_bd bs i
  have h2 := nB_bd bs (i + 1)
  exact (number_any _ _ h1.1 (by omega) h2.1 (by omega) w).mono fun e w' h => ⟨h.1, by rw [← h.2]; exact Ext.refl _⟩

set_option maxHeartbeats 8000000 in
theorem l11Num_any (bs : List UInt8) (v : Value) (i : Nat) (z : Int) (hz : z = (i : Int)) (w : World) (h : Sl w (Old w) v bs) (hi : i + 1 < bs.length) :
    Calls Try.prog 46 #[v, .int .i64 z] w fun e w' => e = .returned (.int .i64 (n2 bs i)) ∧ Ext w w' := by
  subst hz
  obtain ⟨A1, c1, rfl, hl1, hm1⟩ := h.form
  unfold maxLen at hm1
  obtain ⟨bb, off, rfl, hbo, -⟩ := at_UInt8 h (i := i) (by omega)
  have hbl : bb < w.heap.size := hbo
  have g0 := cellB h (i := i) (by omega)
  have g1 := cellB h (i := i + 1) (by omega)
  have b0 := (nB_bd bs i).1
  have b1 := (nB_bd bs i).2
  have c0 := (nB_bd bs (i + 1)).1
  have c3 := (nB_bd bs (i + 1)).2
  have z0 : (0 : Int) ≤ (i : Int) := by omega
  have z1 : (i : Int) + 1 < (bs.length : Int) := by omega
  have z2 : (i : Int) < (bs.length : Int) := by omega
  have z3 : (0 : Int) ≤ (i : Int) + 1 := by omega
  have zw : IntKind.i64.wrap ((i : Int) + 1) = ((i + 1 : Nat) : Int) := by rw [IntKind.wrap_i64]; omega
  have HN := hide (show nB bs i * 256 + nB bs (i + 1) = n2 bs i from rfl)
  clear h hi
  go_enter Try.func46, Try.ntmps46
  have he0 : Ext w w := Ext.refl _
  have hs0 : w.heap.size ≤ w.heap.size := Nat.le_refl _
  have hq0 := hide (rfl : w.heap.size = w.heap.size)
  go_wp2_with fail
  go_upto_region 1 with fail
  have hS : ∀ w', Ext w w' → ∀ bb oo, bb < w.heap.size → w'.cell? ⟨bb, oo, none⟩ = w.cell? ⟨bb, oo, none⟩ := fun w' hx bb oo hb => hx.cell hb
  refine wp_region_plan (fun w' => Ext w w') 12 (.float 0 (.float 1 (.float 2 (.float 3 (.float 4 (.float 5 (.float 6 (.float 7 (.float 8 (.float 9 (.float 10 (.float 11 (.tail 12))))))))))))) (by kernel_rfl) (by kernel_rfl) (Ext.refl _).drew ?_
  iterate 12 ((refine Plan.float_step (v := ?_) rfl (by rfl) (fun _ _ _ h => h) (fun w' hSw => ?_) ?_; rotate_left; · (go_simp; try with_reducible rfl)); (try simp only [Act.put, List.setIfInBounds_toArray, List.set_cons_zero, List.set_cons_succ]))
  refine Plan.tail_step ?_
  simp only [List.drop_succ_cons, List.drop_zero]
  clear hS
  go_wp2
  go_ret
  exact ⟨by rw [← HN.out]; rfl, Ext.auto⟩

end Go.Proofs.Yteaacelfnkiboaa
