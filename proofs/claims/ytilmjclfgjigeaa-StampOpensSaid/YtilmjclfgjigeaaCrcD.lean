/- crc.power and crc.Joined, by their contracts (every input). -/
import Derived.Test.YtilmjclfgjigeaaCrcC
set_option linter.unusedVariables false
set_option linter.unusedSimpArgs false
namespace Go.Proofs.Ytilmjclfgjigeaa.Crc
open Go Go.RowKit Go.Proofs.YtilmjclfgjigeaaW.PrintWords Go.Proofs.YtilmjclfgjigeaaW.PrintLast Go.Proofs.YtilmjclfgjigeaaW.PrintMore Base

def sq (S : Nat → BitVec 32) : Nat → BitVec 32 := fun j => ofS S (S j)
/-- What n of a shift do to a sum. -/
def pw (S : Nat → BitVec 32) (a : BitVec 32) (n : Nat) : BitVec 32 :=
  if h : n = 0 then a else pw (sq S) (if n % 2 = 1 then ofS S a else a) (n / 2)
termination_by n
theorem pw_zero (S : Nat → BitVec 32) (a : BitVec 32) : pw S a 0 = a := by rw [pw]; simp
theorem pw_pos (S : Nat → BitVec 32) (a : BitVec 32) (n : Nat) (h : 0 < n) : pw S a n = pw (sq S) (if n % 2 = 1 then ofS S a else a) (n / 2) := by
  rw [pw, dif_neg (by omega)]
theorem i64_and1 (i : Int) (h0 : 0 ≤ i) (h1 : i < 9223372036854775808) : Go.bits .and .i64 i 1 = i % 2 :=
  bits_mask .i64 63 (by decide) (fun n a b => by rw [IntKind.wrap_i64]; omega) 1 (by decide) i h0 (by omega)

set_option maxRecDepth 100000 in
set_option maxHeartbeats 1600000 in
theorem power_any (S : Nat → BitVec 32) (a : BitVec 32) (n : Int) (w : World) (hn : n ≤ 9223372036854775807) :
    Calls Try.prog 29 #[.int .u32 (a.toNat : Int), .int .i64 n, .agg (arr S), .func (.func 31) #[] #[]] w fun e w' => e = .returned (.int .u32 ((pw S a n.toNat).toNat : Int)) ∧ Below w.heap.size w w' := by
  have HI := Lib.hid info47
  go_enter Try.func29, Try.ntmps29
  go_wp2
  go_loopw [0, 1] (fun v i wr => ∃ (b : BitVec 32) (j : Int) (T : Nat → BitVec 32), v = .int .u32 (b.toNat : Int) ∧ i = .int .i64 j ∧ j ≤ 9223372036854775807 ∧ pw T b j.toNat = pw S a n.toNat ∧
      wr.heap[w.heap.size]? = some (.cells (arr T) 47) ∧ Below w.heap.size w wr) (fun _ i _ => (intOf i).toNat)
  case atStart => exact ⟨a, n, S, rfl, rfl, hn, rfl, heap_alloc_new _ _, (Below.refl _ _).alloc (Nat.le_refl _) _⟩
  case round =>
    obtain ⟨b, j, T, rfl, rfl, hj, hpw, hB, hbel⟩ := hrel
    have hlt : w.heap.size < wr.heap.size := (Array.getElem?_eq_some_iff.1 hB).1
    have HP := Lib.hid hpw
    have HB := Lib.hid hB
    have HBel := Lib.hid hbel
    clear hpw hB hbel
    by_cases h0 : 0 < j
    · have hand := i64_and1 j (by omega) (by omega)
      have HPP := Lib.hid (pw_pos T b j.toNat (by omega))
      by_cases h1 : j % 2 = 1
      · have hb1 : (Go.bits .and .i64 j 1 == 1) = true := by rw [hand]; simpa using h1
        clear hand
        go_wp2_with (first | ((with_reducible refine wpList_load_row rfl 47 (.tmp 6) rfl w.heap.size ?_ 47 _ _ _ HB.out Try.underlying47 ?_ ?_ ?_); rfl; rfl; (rw [arr_size]; exact HI.out)) | ((with_reducible refine wpList_load_row rfl 47 (.tmp 6) rfl w.heap.size ?_ 47 _ _ _ HB2.out Try.underlying47 ?_ ?_ ?_); rfl; rfl; (rw [arr_size]; exact HI.out)) | (go_at_call 36; refine (of_any T b _).mono ?_; rintro e w' ⟨rfl, m, rfl⟩; have HB2 : Hid (((wr.alloc (.cells (arr T) 47)).drewN m).heap[w.heap.size]? = some (.cells (arr T) 47)) := Lib.hid (alloc_row HB.out _)) | (go_at_call 31; refine (squared_any T _).mono ?_; rintro e w3 ⟨rfl, hb3⟩; have HB3 := Lib.hid hb3; clear hb3; have HB4 := Lib.hid ((HB3.out.block w.heap.size (by simp; omega)).trans HB2.out)) | ((with_reducible refine wpList_store_row rfl 47 (.tmp 6) (.tmp 21) rfl w.heap.size (arr (fun j => ofS T (T j))) ?_ ?_ 47 _ HB4.out ?_ ?_ ?_ ?_); rfl; rfl; (rw [arr_size]; exact HI.out); (rw [arr_size, arr_size]); exact arr_one _))
        go_roundw
        case rel =>
          refine ⟨ofS T b, j / 2, sq T, rfl, rfl, by omega, ?_, setRow_heap _ _ _ _ 47 (0, 0) HB4.out, below_setRow (below_then (pw_below_drewN (HBel.out.alloc (by omega) _) _) (by simp; omega) HB3.out) (Nat.le_refl _) _⟩
          rw [← HP.out, HPP.out, if_pos (by omega), show (j / 2).toNat = j.toNat / 2 by omega]
        case measure => simp [intOf]; omega
      · have hb1 : (Go.bits .and .i64 j 1 == 1) = false := by rw [hand]; simpa using h1
        clear hand
        go_wp2_with (first | ((with_reducible refine wpList_load_row rfl 47 (.tmp 6) rfl w.heap.size ?_ 47 _ _ _ HB.out Try.underlying47 ?_ ?_ ?_); rfl; rfl; (rw [arr_size]; exact HI.out)) | (go_at_call 31; refine (squared_any T _).mono ?_; rintro e w3 ⟨rfl, hb3⟩; have HB3 := Lib.hid hb3; clear hb3; have HB4 := Lib.hid ((HB3.out.block w.heap.size hlt).trans HB.out)) | ((with_reducible refine wpList_store_row rfl 47 (.tmp 6) (.tmp 21) rfl w.heap.size (arr (fun j => ofS T (T j))) ?_ ?_ 47 _ HB4.out ?_ ?_ ?_ ?_); rfl; rfl; (rw [arr_size]; exact HI.out); (rw [arr_size, arr_size]); exact arr_one _))
        go_roundw
        case rel =>
          refine ⟨b, j / 2, sq T, rfl, rfl, by omega, ?_, setRow_heap _ _ _ _ 47 (0, 0) HB4.out, below_setRow (below_then HBel.out (by omega) HB3.out) (Nat.le_refl _) _⟩
          rw [← HP.out, HPP.out, if_neg (by omega), show (j / 2).toNat = j.toNat / 2 by omega]
        case measure => simp [intOf]; omega
    · go_wp2
      go_ret
      refine ⟨ret32 ?_, HBel.out⟩
      rw [← HP.out, show j.toNat = 0 by omega, pw_zero]

def oneS : Nat → BitVec 32 := fun j => beh (1#32 <<< j)
def joined (a b : BitVec 32) (n : Nat) : BitVec 32 := pw oneS a n ^^^ b
set_option maxHeartbeats 800000 in
theorem joined_any (a b : BitVec 32) (n : Int) (w : World) (hn : n ≤ 9223372036854775807) :
    Calls Try.prog 20 #[.int .u32 (a.toNat : Int), .int .u32 (b.toNat : Int), .int .i64 n] w fun e w' => e = .returned (.int .u32 ((joined a b n.toNat).toNat : Int)) ∧ Below w.heap.size w w' := by
  go_enter Try.func20, Try.ntmps20
  go_wp2_with (first | (go_at_call 30; refine (one_any _).mono ?_; rintro e w1 ⟨rfl, hb1⟩; have HB1 := Lib.hid hb1; clear hb1) | (go_at_call 29; refine (power_any oneS a n _ hn).mono ?_; rintro e w2 ⟨rfl, hb2⟩; have HB2 := Lib.hid hb2; clear hb2))
  go_ret
  exact ⟨ret32 (bits_xor _ _), below_then HB1.out HB1.out.size HB2.out⟩
theorem joined_def (a b : BitVec 32) (n : Nat) : joined a b n = pw oneS a n ^^^ b := rfl
attribute [irreducible] joined

/-! The document's. -/
/-- Two numbers as polynomials: the bits from 31 down to 32 - k have been taken. -/
def tm (a : BitVec 32) (b : BitVec 32) : Nat → BitVec 32
  | 0 => 0
  | k + 1 => tm a b k ^^^ (if a.getLsbD (31 - k) then iter bit k b else 0)
def times (a b : BitVec 32) : BitVec 32 := tm a b 32
theorem times_def (a b : BitVec 32) : times a b = tm a b 32 := rfl
theorem tm_true {a b : BitVec 32} {k : Nat} (h : a.getLsbD (31 - k) = true) : tm a b k ^^^ iter bit k b = tm a b (k + 1) := by simp [tm, h]
theorem tm_false {a b : BitVec 32} {k : Nat} (h : a.getLsbD (31 - k) = false) : tm a b k = tm a b (k + 1) := by simp [tm, h]
theorem shr_odd (a : BitVec 32) (j : Nat) : ((((a.toNat : Int) / (2 : Int) ^ j).tmod 2) == 1) = a.getLsbD j := by
  rw [shr_spell, BitVec.getLsbD, Bool.eq_iff_iff]
  rw [Int.tmod_eq_emod_of_nonneg (by omega)]
  simp only [BitVec.toNat_ushiftRight, Nat.testBit, Nat.one_and_eq_mod_two, bne_iff_ne, ne_eq, beq_iff_eq]
  omega
set_option maxHeartbeats 1600000 in
theorem times_any (a b : BitVec 32) (w : World) :
    Calls Try.prog 32 #[.int .u32 (a.toNat : Int), .int .u32 (b.toNat : Int)] w fun e w' => e = .returned (.int .u32 ((times a b).toNat : Int)) ∧ w = w' := by
  go_enter Try.func32, Try.ntmps32
  go_wp2
  go_loop [1, 5, 6] (fun v o i => ∃ k : Nat, k ≤ 32 ∧ i = .int .i64 (31 - (k : Int)) ∧ v = .int .u32 ((iter bit k b).toNat : Int) ∧ o = .int .u32 ((tm a b k).toNat : Int)) (fun _ _ i => (intOf i + 1).toNat)
  case atStart => exact ⟨0, by omega, by simp, rfl, rfl⟩
  case round =>
    obtain ⟨k, hk, rfl, rfl, rfl⟩ := hrel
    by_cases hlt : k < 32
    · have e31 : (31 - (k : Int)).toNat = 31 - k := by omega
      cases hb : a.getLsbD (31 - k) with
      | true =>
        have hs := (shr_odd a (31 - k)).trans hb
        have HT := Lib.hid (tm_true (b := b) hb)
        clear hb
        go_wp2_with (go_at_call 28; refine (rbit_any _ _).mono ?_; rintro e w' ⟨rfl, rfl⟩)
        go_round
        case rel => exact ⟨k + 1, by omega, by congr 1; omega, rfl, by rw [← HT.out, bits_xor]⟩
        case measure => simp [intOf]; omega
      | false =>
        have hs := (shr_odd a (31 - k)).trans hb
        have HT := Lib.hid (tm_false (b := b) hb)
        clear hb
        go_wp2_with (go_at_call 28; refine (rbit_any _ _).mono ?_; rintro e w' ⟨rfl, rfl⟩)
        go_round
        case rel => exact ⟨k + 1, by omega, by congr 1; omega, rfl, by rw [← HT.out]⟩
        case measure => simp [intOf]; omega
    · obtain rfl : k = 32 := by omega
      go_wp2
      go_ret
      exact ⟨ret32 (by rw [times_def]), rfl⟩

/-- The document's: a sum by the power of a number. -/
def rpw (x a : BitVec 32) (n : Nat) : BitVec 32 :=
  if h : n = 0 then a else rpw (times x x) (if n % 2 = 1 then times x a else a) (n / 2)
termination_by n
theorem rpw_zero (x a : BitVec 32) : rpw x a 0 = a := by rw [rpw]; simp
theorem rpw_pos (x a : BitVec 32) (n : Nat) (h : 0 < n) : rpw x a n = rpw (times x x) (if n % 2 = 1 then times x a else a) (n / 2) := by
  rw [rpw, dif_neg (by omega)]
def rjoined (a b : BitVec 32) (n : Nat) : BitVec 32 := rpw 0x800000#32 a n ^^^ b
theorem rjoined_def (a b : BitVec 32) (n : Nat) : rjoined a b n = rpw 0x800000#32 a n ^^^ b := rfl
attribute [irreducible] times rjoined
set_option maxHeartbeats 1600000 in
theorem rjoined_any (a b : BitVec 32) (n : Int) (w : World) (hn : n ≤ 9223372036854775807) :
    Calls Try.prog 21 #[.int .u32 (a.toNat : Int), .int .u32 (b.toNat : Int), .int .i64 n] w fun e w' => e = .returned (.int .u32 ((rjoined a b n.toNat).toNat : Int)) ∧ w = w' := by
  have h8 : (8388608 : Int) = ((0x800000#32).toNat : Int) := by decide
  go_enter Try.func21, Try.ntmps21
  go_wp2
  go_loop [0, 2, 7] (fun v i o => ∃ (c x : BitVec 32) (j : Int), v = .int .u32 (c.toNat : Int) ∧ i = .int .i64 j ∧ o = .int .u32 (x.toNat : Int) ∧ j ≤ 9223372036854775807 ∧ rpw x c j.toNat = rpw 0x800000#32 a n.toNat) (fun _ i _ => (intOf i).toNat)
  case atStart => exact ⟨a, 0x800000#32, n, rfl, rfl, rfl, hn, rfl⟩
  case round =>
    clear h8
    obtain ⟨c, x, j, rfl, rfl, rfl, hj, hpw⟩ := hrel
    have HP := Lib.hid hpw
    clear hpw
    by_cases h0 : 0 < j
    · have HPP := Lib.hid (rpw_pos x c j.toNat (by omega))
      by_cases h1 : j % 2 = 1
      · have hb1 : (j.tmod 2 == 1) = true := by rw [Int.tmod_eq_emod_of_nonneg (by omega)]; simpa using h1
        go_wp2_with (go_at_call 32; refine (times_any _ _ _).mono ?_; rintro e w' ⟨rfl, rfl⟩)
        go_round
        case rel =>
          refine ⟨times x c, times x x, j / 2, rfl, rfl, rfl, by omega, ?_⟩
          rw [← HP.out, HPP.out, if_pos (by omega), show (j / 2).toNat = j.toNat / 2 by omega]
        case measure => simp [intOf]; omega
      · have hb1 : (j.tmod 2 == 1) = false := by rw [Int.tmod_eq_emod_of_nonneg (by omega)]; simpa using h1
        go_wp2_with (go_at_call 32; refine (times_any _ _ _).mono ?_; rintro e w' ⟨rfl, rfl⟩)
        go_round
        case rel =>
          refine ⟨c, times x x, j / 2, rfl, rfl, rfl, by omega, ?_⟩
          rw [← HP.out, HPP.out, if_neg (by omega), show (j / 2).toNat = j.toNat / 2 by omega]
        case measure => simp [intOf]; omega
    · go_wp2
      go_ret
      refine ⟨ret32 ?_, rfl⟩
      rw [rjoined_def, ← HP.out, show j.toNat = 0 by omega, rpw_zero, bits_xor]
end Go.Proofs.Ytilmjclfgjigeaa.Crc
