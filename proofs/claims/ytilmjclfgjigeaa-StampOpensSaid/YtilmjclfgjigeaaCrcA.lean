/- The polynomial sums of 32 bits, as plain functions on bit vectors (no condition). -/
import Derived.Laws.BitsLemmas
namespace Go.Proofs.Ytilmjclfgjigeaa.Crc
open Go

/-- One bit goes out. -/
def bit (n : BitVec 32) : BitVec 32 := (n >>> 1) ^^^ (0x82f63b78#32 &&& -(n &&& 1#32))
def iter (f : BitVec 32 → BitVec 32) : Nat → BitVec 32 → BitVec 32
  | 0, n => n
  | k + 1, n => f (iter f k n)
def beh (n : BitVec 32) : BitVec 32 := iter bit 8 n
theorem beh_def (n : BitVec 32) : beh n = iter bit 8 n := rfl
def u (x : Int) : BitVec 32 := BitVec.ofInt 32 x
def run (n : BitVec 32) : List Int → BitVec 32
  | [] => n
  | x :: xs => run (beh (n ^^^ u x)) xs
def more (s : BitVec 32) (xs : List Int) : BitVec 32 := ~~~ (run (~~~ s) xs)

theorem run_append (xs ys : List Int) : ∀ n, run n (xs ++ ys) = run (run n xs) ys := by
  induction xs with
  | nil => intro n; rfl
  | cons x xs ih => intro n; exact ih _
theorem run_snoc (xs : List Int) (y : Int) (n : BitVec 32) : run n (xs ++ [y]) = beh (run n xs ^^^ u y) := by
  rw [run_append]; rfl

/-! The walk's spellings. -/
theorem wrap_nat (b : BitVec 32) : IntKind.u32.wrap (b.toNat : Int) = (b.toNat : Int) := by
  rw [IntKind.wrap_u32]; have := b.isLt; omega
theorem ofInt_toNat (a : BitVec 32) : BitVec.ofInt 32 (a.toNat : Int) = a := by simp
theorem bits_xor (a b : BitVec 32) : Go.bits .xor .u32 (a.toNat : Int) (b.toNat : Int) = ((a ^^^ b).toNat : Int) := by
  show IntKind.u32.wrap ((BitVec.ofInt 32 (a.toNat : Int) ^^^ BitVec.ofInt 32 (b.toNat : Int)).toNat : Int) = _
  rw [ofInt_toNat, ofInt_toNat, wrap_nat]
theorem bits_and (a b : BitVec 32) : Go.bits .and .u32 (a.toNat : Int) (b.toNat : Int) = ((a &&& b).toNat : Int) := by
  show IntKind.u32.wrap ((BitVec.ofInt 32 (a.toNat : Int) &&& BitVec.ofInt 32 (b.toNat : Int)).toNat : Int) = _
  rw [ofInt_toNat, ofInt_toNat, wrap_nat]
theorem bits_xor_any (a : BitVec 32) (x : Int) : Go.bits .xor .u32 (a.toNat : Int) x = ((a ^^^ u x).toNat : Int) := by
  show IntKind.u32.wrap ((BitVec.ofInt 32 (a.toNat : Int) ^^^ BitVec.ofInt 32 x).toNat : Int) = _
  rw [ofInt_toNat, wrap_nat]; rfl
theorem bits_and_any (a : BitVec 32) (x : Int) : Go.bits .and .u32 (a.toNat : Int) x = ((a &&& u x).toNat : Int) := by
  show IntKind.u32.wrap ((BitVec.ofInt 32 (a.toNat : Int) &&& BitVec.ofInt 32 x).toNat : Int) = _
  rw [ofInt_toNat, wrap_nat]; rfl
theorem bits_any_and (a : BitVec 32) (x : Int) : Go.bits .and .u32 x (a.toNat : Int) = ((u x &&& a).toNat : Int) := by
  show IntKind.u32.wrap ((BitVec.ofInt 32 x &&& BitVec.ofInt 32 (a.toNat : Int)).toNat : Int) = _
  rw [ofInt_toNat, wrap_nat]; rfl
theorem bits_any_xor (a : BitVec 32) (x : Int) : Go.bits .xor .u32 x (a.toNat : Int) = ((u x ^^^ a).toNat : Int) := by
  show IntKind.u32.wrap ((BitVec.ofInt 32 x ^^^ BitVec.ofInt 32 (a.toNat : Int)).toNat : Int) = _
  rw [ofInt_toNat, wrap_nat]; rfl
theorem neg_mod (a : BitVec 32) : (-(a.toNat : Int)) % 4294967296 = ((-a).toNat : Int) := by
  have := a.isLt
  rw [BitVec.toNat_neg]
  omega
theorem half (a : BitVec 32) : (a.toNat : Int) / (2 : Int) = ((a >>> 1).toNat : Int) := by
  simp [BitVec.toNat_ushiftRight, Nat.shiftRight_eq_div_pow]
theorem not_xor (a : BitVec 32) : (u 4294967295 ^^^ a) = ~~~ a := by
  have : u 4294967295 = BitVec.allOnes 32 := by decide
  rw [this, BitVec.allOnes_xor]
theorem not_xor' (a : BitVec 32) : (a ^^^ u 4294967295) = ~~~ a := by rw [BitVec.xor_comm, not_xor]
/-- crc.behind's step. -/
theorem step_spell (a : BitVec 32) : Go.bits .xor .u32 ((a.toNat : Int) / 2) (Go.bits .and .u32 2197175160 ((-(Go.bits .and .u32 (a.toNat : Int) 1)) % 4294967296)) = ((bit a).toNat : Int) := by
  rw [bits_and_any, neg_mod, bits_any_and, half, bits_xor]; rfl
theorem u_mod (x : Int) : u (x % 4294967296) = u x := by
  unfold u
  apply BitVec.eq_of_toNat_eq
  simp [BitVec.toNat_ofInt]
theorem u_nat (a : BitVec 32) : u (a.toNat : Int) = a := ofInt_toNat a
theorem neg_and_one (a : BitVec 32) : (-(a &&& 1#32)) = if a.getLsbD 0 then BitVec.allOnes 32 else 0#32 := by
  have h : a &&& 1#32 = if a.getLsbD 0 then 1#32 else 0#32 := by
    apply BitVec.eq_of_getLsbD_eq
    intro i hi
    by_cases h0 : i = 0
    · subst h0; rw [BitVec.getLsbD_and]; cases h : a.getLsbD 0 <;> simp
    · cases h : a.getLsbD 0 <;> simp [BitVec.getLsbD_one, h0]
  rw [h]
  cases a.getLsbD 0
  · simp
  · decide
theorem bit_odd (a : BitVec 32) (h : a.getLsbD 0 = true) : bit a = (a >>> 1) ^^^ 0x82f63b78#32 := by
  unfold bit; rw [neg_and_one, if_pos h, BitVec.and_allOnes]
theorem bit_even (a : BitVec 32) (h : a.getLsbD 0 = false) : bit a = a >>> 1 := by
  unfold bit; rw [neg_and_one, h]; simp
theorem odd_of (a : BitVec 32) (h : (a.toNat : Int) % 2 = 1) : a.getLsbD 0 = true := by
  rw [BitVec.getLsbD, Nat.testBit_zero]; simp; omega
theorem even_of (a : BitVec 32) (h : ¬ (a.toNat : Int) % 2 = 1) : a.getLsbD 0 = false := by
  rw [BitVec.getLsbD, Nat.testBit_zero]; simp; omega
theorem rstep_odd (a : BitVec 32) (h : (a.toNat : Int) % 2 = 1) : Go.bits .xor .u32 ((a.toNat : Int) / 2) 2197175160 = ((bit a).toNat : Int) := by
  rw [half, bits_xor_any, bit_odd a (odd_of a h)]; rfl
theorem rstep_even (a : BitVec 32) (h : ¬ (a.toNat : Int) % 2 = 1) : (a.toNat : Int) / (2 : Int) = ((bit a).toNat : Int) := by
  rw [half, bit_even a (even_of a h)]
theorem start_spell (s : BitVec 32) : Go.bits .xor .u32 4294967295 (s.toNat : Int) = ((~~~ s).toNat : Int) := by
  rw [bits_any_xor, not_xor]
theorem start_spell' (s : BitVec 32) : Go.bits .xor .u32 (s.toNat : Int) 4294967295 = ((~~~ s).toNat : Int) := by
  rw [bits_xor_any, not_xor']
theorem byte_spell (a : BitVec 32) (x : Int) : Go.bits .xor .u32 (a.toNat : Int) (x % 4294967296) = ((a ^^^ u x).toNat : Int) := by
  rw [bits_xor_any, u_mod]
theorem iter_succ (f : BitVec 32 → BitVec 32) (k : Nat) (n : BitVec 32) : iter f (k + 1) n = f (iter f k n) := rfl
theorem take_succ_rd (xs : List Int) (k : Nat) (h : k < xs.length) : xs.take (k + 1) = xs.take k ++ [xs.getD k 0] := by
  rw [List.take_succ_eq_append_getElem h, List.getD_eq_getElem?_getD, List.getElem?_eq_getElem h]; rfl
theorem run_take (xs : List Int) (k : Nat) (h : k < xs.length) (n : BitVec 32) : run n (xs.take (k + 1)) = beh (run n (xs.take k) ^^^ u (xs.getD k 0)) := by
  rw [take_succ_rd xs k h, run_snoc]
/-- What becomes of a sum by a shift's rows, the first k bits. -/
def acc (S : Nat → BitVec 32) (n : BitVec 32) : Nat → BitVec 32
  | 0 => 0
  | k + 1 => acc S n k ^^^ (S k &&& -((n >>> k) &&& 1#32))
def ofS (S : Nat → BitVec 32) (n : BitVec 32) : BitVec 32 := acc S n 32
theorem ofS_def (S : Nat → BitVec 32) (n : BitVec 32) : ofS S n = acc S n 32 := rfl
/-- A row of 32 sums as the memory has it. -/
def arr (F : Nat → BitVec 32) : Array Value := Array.ofFn (n := 32) fun i => Value.int .u32 ((F i).toNat : Int)
theorem arr_size (F : Nat → BitVec 32) : (arr F).size = 32 := by simp [arr]
theorem arr_get (F : Nat → BitVec 32) (i : Nat) (h : i < 32) : (arr F)[i]? = some (.int .u32 ((F i).toNat : Int)) := by
  simp [arr, h]
theorem arr_set (F : Nat → BitVec 32) (k : Nat) (x : BitVec 32) : (arr F).setIfInBounds k (.int .u32 (x.toNat : Int)) = arr (fun j => if j = k then x else F j) := by
  apply Array.ext
  · simp [arr]
  · intro i h1 h2
    have h3 : i < 32 := by simpa [arr] using h1
    rw [← Option.some_inj, ← Array.getElem?_eq_getElem h1, ← Array.getElem?_eq_getElem h2, arr_get _ i h3, Array.getElem?_setIfInBounds]
    by_cases h : k = i
    · subst h; simp [arr_size, h3]
    · rw [if_neg h, arr_get _ i h3, if_neg (Ne.symm h)]
theorem arr_congr {F G : Nat → BitVec 32} (h : ∀ i, i < 32 → F i = G i) : arr F = arr G := by
  apply Array.ext
  · simp [arr]
  · intro i h1 h2
    have : i < 32 := by simpa [arr] using h1
    simp only [arr, Array.getElem_ofFn, h i this]
theorem arr_one (F : Nat → BitVec 32) : (arr F).all (·.oneCell') = true := by
  rw [Array.all_eq_true]
  intro i h
  simp [arr, Value.oneCell']
theorem arr_zero : arr (fun _ => 0) = Array.replicate 32 (.int .u32 0) := by
  apply Array.ext
  · simp [arr]
  · intro i h1 h2
    simp [arr]
theorem shr_spell (n : BitVec 32) (k : Nat) : (n.toNat : Int) / (2 : Int) ^ k = ((n >>> k).toNat : Int) := by
  simp [BitVec.toNat_ushiftRight, Nat.shiftRight_eq_div_pow]
theorem acc_spell (S : Nat → BitVec 32) (n : BitVec 32) (k : Nat) : Go.bits .xor .u32 ((acc S n k).toNat : Int) (Go.bits .and .u32 ((S k).toNat : Int) ((-Go.bits .and .u32 ((n.toNat : Int) / (2 : Int) ^ k) 1) % 4294967296)) = ((acc S n (k + 1)).toNat : Int) := by
  rw [shr_spell, bits_and_any (n >>> k), neg_mod, bits_and, bits_xor]; rfl
theorem one_spell (k : Nat) (h : k < 32) : (2 : Int) ^ k % 4294967296 = ((1#32 <<< k).toNat : Int) := by
  have h2 : ∀ k, k < 32 → (2 : Int) ^ k % 4294967296 = ((1#32 <<< k).toNat : Int) := by decide
  exact h2 k h
attribute [irreducible] arr ofS beh
end Go.Proofs.Ytilmjclfgjigeaa.Crc
