/- The sums' algebra: the shift by a byte is a linear map, so the two ways to join are one (every input). -/
import Derived.Test.YtilmjclfgjigeaaCrcD
namespace Go.Proofs.Ytilmjclfgjigeaa.Crc
open Go

/-! ### Linear maps -/
def Lin (f : BitVec 32 → BitVec 32) : Prop := ∀ a b, f (a ^^^ b) = f a ^^^ f b
theorem Lin.zero {f : BitVec 32 → BitVec 32} (h : Lin f) : f 0#32 = 0#32 := by
  have := h 0#32 0#32
  rw [BitVec.xor_self, BitVec.xor_self] at this
  exact this
theorem Lin.comp {f g : BitVec 32 → BitVec 32} (hf : Lin f) (hg : Lin g) : Lin (fun x => f (g x)) := fun a b => by
  show f (g (a ^^^ b)) = _
  rw [hg, hf]
theorem lsb_mask (a b : BitVec 32) (k : Nat) : -((a ^^^ b) >>> k &&& 1#32) = -(a >>> k &&& 1#32) ^^^ -(b >>> k &&& 1#32) := by
  rw [neg_and_one, neg_and_one, neg_and_one]
  have h : ((a ^^^ b) >>> k).getLsbD 0 = ((a >>> k).getLsbD 0 ^^ (b >>> k).getLsbD 0) := by simp
  rw [h]
  cases (a >>> k).getLsbD 0 <;> cases (b >>> k).getLsbD 0 <;> decide
theorem and_xor (p a b : BitVec 32) : p &&& (a ^^^ b) = (p &&& a) ^^^ (p &&& b) := by
  apply BitVec.eq_of_getLsbD_eq
  intro i hi
  simp only [BitVec.getLsbD_and, BitVec.getLsbD_xor]
  cases p.getLsbD i <;> simp
theorem xor4 (a b c d : BitVec 32) : (a ^^^ b) ^^^ (c ^^^ d) = (a ^^^ c) ^^^ (b ^^^ d) := by
  apply BitVec.eq_of_getLsbD_eq
  intro i hi
  simp only [BitVec.getLsbD_xor]
  cases a.getLsbD i <;> cases b.getLsbD i <;> cases c.getLsbD i <;> cases d.getLsbD i <;> rfl
theorem bit_lin : Lin bit := fun a b => by
  unfold bit
  have h := lsb_mask a b 0
  simp only [BitVec.ushiftRight_zero] at h
  rw [h, and_xor, BitVec.ushiftRight_xor_distrib, xor4]
theorem iter_lin {f : BitVec 32 → BitVec 32} (h : Lin f) : ∀ k, Lin (iter f k)
  | 0 => fun _ _ => rfl
  | k + 1 => fun a b => by
    show f (iter f k (a ^^^ b)) = f (iter f k a) ^^^ f (iter f k b)
    rw [iter_lin h k, h]
theorem beh_lin : Lin beh := fun a b => by
  rw [beh_def, beh_def, beh_def]; exact iter_lin bit_lin 8 a b
theorem iter_add (f : BitVec 32 → BitVec 32) (n : BitVec 32) : ∀ m k, iter f (m + k) n = iter f m (iter f k n)
  | 0, k => by rw [Nat.zero_add]; rfl
  | m + 1, k => by
    rw [Nat.add_right_comm]
    show f (iter f (m + k) n) = f (iter f m (iter f k n))
    rw [iter_add f n m k]
theorem iter_succ' (f : BitVec 32 → BitVec 32) (n : BitVec 32) (k : Nat) : iter f (k + 1) n = iter f k (f n) := iter_add f n k 1
theorem iter_comm {f : BitVec 32 → BitVec 32} (k : Nat) (n : BitVec 32) : f (iter f k n) = iter f k (f n) := iter_succ' f n k
theorem iter_sq (f : BitVec 32 → BitVec 32) (n : BitVec 32) : ∀ k, iter (fun x => f (f x)) k n = iter f (2 * k) n
  | 0 => rfl
  | k + 1 => by
    show f (f (iter (fun x => f (f x)) k n)) = f (f (iter f (2 * k) n))
    rw [iter_sq f n k]

/-! ### A sum's text is affine -/
theorem run_xor (xs : List Int) : ∀ n m, run (n ^^^ m) xs = run n xs ^^^ iter beh xs.length m := by
  induction xs with
  | nil => intro n m; rfl
  | cons x xs ih =>
    intro n m
    show run (beh (n ^^^ m ^^^ u x)) xs = run (beh (n ^^^ u x)) xs ^^^ iter beh (xs.length + 1) m
    rw [iter_succ', ← ih, ← beh_lin]
    congr 2
    rw [BitVec.xor_assoc, BitVec.xor_comm m, ← BitVec.xor_assoc]
theorem not_is (s : BitVec 32) : ~~~ s = ~~~ (0 : BitVec 32) ^^^ s := by
  have : ~~~ (0 : BitVec 32) = BitVec.allOnes 32 := by decide
  rw [this, BitVec.allOnes_xor]
theorem xor_not (a b : BitVec 32) : ~~~ (a ^^^ b) = ~~~ a ^^^ b := by
  rw [not_is (a ^^^ b), not_is a, BitVec.xor_assoc]
theorem more_is (s : BitVec 32) (xs : List Int) : more s xs = iter beh xs.length s ^^^ more 0 xs := by
  unfold more
  rw [not_is s, run_xor, xor_not, BitVec.xor_comm]
theorem more_more (s : BitVec 32) (xs ys : List Int) : more (more s xs) ys = more s (xs ++ ys) := by
  unfold more
  rw [BitVec.not_not, run_append]

/-! ### Rows of a linear map -/
def e (j : Nat) : BitVec 32 := 1#32 <<< j
theorem acc_step (S : Nat → BitVec 32) (n : BitVec 32) (k : Nat) : acc S n (k + 1) = acc S n k ^^^ (if n.getLsbD k then S k else 0) := by
  show acc S n k ^^^ (S k &&& -(n >>> k &&& 1#32)) = _
  rw [neg_and_one]
  have h : (n >>> k).getLsbD 0 = n.getLsbD k := by simp
  rw [h]
  cases n.getLsbD k
  · simp
  · rw [if_pos rfl, if_pos rfl, BitVec.and_allOnes]
theorem acc_lin {f : BitVec 32 → BitVec 32} (hf : Lin f) (n : BitVec 32) : ∀ k, acc (fun j => f (e j)) n k = f (acc e n k)
  | 0 => hf.zero.symm
  | k + 1 => by
    rw [acc_step, acc_step, acc_lin hf n k, hf]
    cases n.getLsbD k
    · exact congrArg (f (acc e n k) ^^^ ·) hf.zero.symm
    · rfl
theorem acc_bits (n : BitVec 32) : ∀ k, k ≤ 32 → ∀ i, i < 32 → (acc e n k).getLsbD i = (decide (i < k) && n.getLsbD i)
  | 0, _, i, _ => by simp [acc]
  | k + 1, hk, i, hi => by
    rw [acc_step, BitVec.getLsbD_xor, acc_bits n k (by omega) i hi]
    have he : (e k).getLsbD i = decide (i = k) := by
      unfold e
      rw [BitVec.getLsbD_shiftLeft]
      by_cases h : i = k
      · subst h; simp [hi]
      · by_cases h2 : i < k
        · simp [h, h2]
        · simp [BitVec.getLsbD_one, h, h2]; omega
    by_cases h : i = k
    · subst h
      cases hn : n.getLsbD i
      · simp
      · simp [he]
    · have : (if n.getLsbD k = true then e k else 0).getLsbD i = false := by
        cases n.getLsbD k
        · simp
        · simp [he, h]
      rw [this]
      by_cases h2 : i < k
      · simp [h2, show i < k + 1 by omega]
      · simp [h2, show ¬ i < k + 1 by omega]
theorem acc_all (n : BitVec 32) : acc e n 32 = n := by
  apply BitVec.eq_of_getLsbD_eq
  intro i hi
  rw [acc_bits n 32 (by omega) i hi]
  simp [hi]
theorem ofS_rows {f : BitVec 32 → BitVec 32} (hf : Lin f) (n : BitVec 32) : ofS (fun j => f (e j)) n = f n := by
  rw [ofS_def, acc_lin hf, acc_all]
theorem sq_rows {f : BitVec 32 → BitVec 32} (hf : Lin f) : sq (fun j => f (e j)) = fun j => f (f (e j)) := by
  funext j
  exact ofS_rows hf _
theorem pw_rows : ∀ (n : Nat) (f : BitVec 32 → BitVec 32), Lin f → ∀ a, pw (fun j => f (e j)) a n = iter f n a := by
  intro n
  induction n using Nat.strongRecOn with
  | _ n ih =>
    intro f hf a
    rcases Nat.eq_zero_or_pos n with h0 | h0
    · subst h0; rw [pw_zero]; rfl
    · rw [pw_pos _ _ _ h0, sq_rows hf, ih (n / 2) (by omega) (fun x => f (f x)) (hf.comp hf), iter_sq]
      by_cases h1 : n % 2 = 1
      · rw [if_pos h1, ofS_rows hf]
        have : n = 2 * (n / 2) + 1 := by omega
        rw [← iter_succ', ← this]
      · rw [if_neg h1]
        have : n = 2 * (n / 2) := by omega
        rw [← this]
theorem joined_is (a b : BitVec 32) (n : Nat) : joined a b n = iter beh n a ^^^ b := by
  rw [joined_def]
  congr 1
  exact pw_rows n beh beh_lin a

/-! ### The document's product -/
theorem tm_lin (a : BitVec 32) : ∀ k, Lin (fun b => tm a b k)
  | 0 => fun _ _ => (BitVec.xor_self).symm
  | k + 1 => fun x y => by
    show tm a (x ^^^ y) k ^^^ _ = (tm a x k ^^^ _) ^^^ (tm a y k ^^^ _)
    have h : tm a (x ^^^ y) k = tm a x k ^^^ tm a y k := tm_lin a k x y
    rw [h, xor4 (tm a x k)]
    congr 1
    cases a.getLsbD (31 - k)
    · simp
    · exact iter_lin bit_lin k x y
theorem tm_bit (a b : BitVec 32) : ∀ k, tm a (bit b) k = bit (tm a b k)
  | 0 => bit_lin.zero.symm
  | k + 1 => by
    show tm a (bit b) k ^^^ _ = bit (tm a b k ^^^ _)
    rw [tm_bit a b k, bit_lin]
    congr 1
    cases a.getLsbD (31 - k)
    · exact bit_lin.zero.symm
    · exact (iter_comm k b).symm
theorem times_lin (a : BitVec 32) : Lin (times a) := fun x y => by
  rw [times_def, times_def, times_def]; exact tm_lin a 32 x y
theorem times_bit (a b : BitVec 32) : times a (bit b) = bit (times a b) := by rw [times_def, times_def, tm_bit]
theorem top_iter (j : Nat) (hj : j < 32) : iter bit (31 - j) (e 31) = e j := by
  have h : ∀ j, j < 32 → iter bit (31 - j) (e 31) = e j := by decide
  exact h j hj
/-- A linear map that goes with 'bit' is known at the first power. -/
theorem known {f g : BitVec 32 → BitVec 32} (hf : Lin f) (hg : Lin g) (fb : ∀ b, f (bit b) = bit (f b)) (gb : ∀ b, g (bit b) = bit (g b)) (h : f (e 31) = g (e 31)) : f = g := by
  have hi : ∀ k, f (iter bit k (e 31)) = g (iter bit k (e 31)) := by
    intro k
    induction k with
    | zero => exact h
    | succ k ih =>
      show f (bit (iter bit k (e 31))) = g (bit (iter bit k (e 31)))
      rw [fb, gb, ih]
  have he : ∀ k, k ≤ 32 → ∀ n, acc (fun j => f (e j)) n k = acc (fun j => g (e j)) n k := by
    intro k
    induction k with
    | zero => intro _ n; rfl
    | succ k ih =>
      intro hk n
      rw [acc_step, acc_step, ih (by omega)]
      have := hi (31 - k)
      rw [top_iter k (by omega)] at this
      rw [this]
  funext n
  rw [← acc_all n, ← acc_lin hf, ← acc_lin hg, he 32 (by omega)]
theorem tm_top (a : BitVec 32) : ∀ k, k ≤ 32 → ∀ i, i < 32 → (tm a (e 31) k).getLsbD i = (decide (32 - k ≤ i) && a.getLsbD i)
  | 0, _, i, hi => by simp [tm]; omega
  | k + 1, hk, i, hi => by
    show (tm a (e 31) k ^^^ (if a.getLsbD (31 - k) then iter bit k (e 31) else 0)).getLsbD i = _
    have ht := top_iter (31 - k) (by omega)
    rw [show 31 - (31 - k) = k by omega] at ht
    rw [ht, BitVec.getLsbD_xor, tm_top a k (by omega) i hi]
    have he : (e (31 - k)).getLsbD i = decide (i = 31 - k) := by
      have h : ∀ j i, j < 32 → i < 32 → (e j).getLsbD i = decide (i = j) := by
        intro j i hj hi
        unfold e
        rw [BitVec.getLsbD_shiftLeft]
        by_cases h : i = j
        · subst h; simp [hi]
        · by_cases h2 : i < j
          · simp [h, h2]
          · simp [BitVec.getLsbD_one, h, h2]; omega
      exact h _ _ (by omega) hi
    by_cases h : i = 31 - k
    · rw [← h] at he ⊢
      cases hn : a.getLsbD i
      · simp
      · rw [if_pos rfl, he, decide_eq_false (show ¬ 32 - k ≤ i by omega), decide_eq_true (show 32 - (k + 1) ≤ i by omega)]; simp
    · have : (if a.getLsbD (31 - k) = true then e (31 - k) else 0).getLsbD i = false := by
        cases a.getLsbD (31 - k)
        · simp
        · simp [he, h]
      rw [this]
      by_cases h2 : 32 - k ≤ i
      · rw [decide_eq_true h2, decide_eq_true (show 32 - (k + 1) ≤ i by omega)]; simp
      · rw [decide_eq_false h2, decide_eq_false (show ¬ 32 - (k + 1) ≤ i by omega)]; simp
theorem times_top (a : BitVec 32) : times a (e 31) = a := by
  rw [times_def]
  apply BitVec.eq_of_getLsbD_eq
  intro i hi
  rw [tm_top a 32 (by omega) i hi]
  simp
theorem times_times (x : BitVec 32) : times (times x x) = fun y => times x (times x y) :=
  known (times_lin _) ((times_lin x).comp (times_lin x)) (times_bit _) (fun b => by rw [times_bit, times_bit]) (by rw [times_top, times_top])
theorem rpw_is : ∀ (n : Nat) (x a : BitVec 32), rpw x a n = iter (times x) n a := by
  intro n
  induction n using Nat.strongRecOn with
  | _ n ih =>
    intro x a
    rcases Nat.eq_zero_or_pos n with h0 | h0
    · subst h0; rw [rpw_zero]; rfl
    · rw [rpw_pos _ _ _ h0, ih (n / 2) (by omega), times_times, iter_sq]
      by_cases h1 : n % 2 = 1
      · rw [if_pos h1]
        have : n = 2 * (n / 2) + 1 := by omega
        rw [← iter_succ', ← this]
      · rw [if_neg h1]
        have : n = 2 * (n / 2) := by omega
        rw [← this]
theorem beh_bit (b : BitVec 32) : beh (bit b) = bit (beh b) := by
  rw [beh_def, beh_def]; exact (iter_comm 8 b).symm
theorem byte_is : times 0x800000#32 = beh :=
  known (times_lin _) beh_lin (times_bit _) beh_bit (by rw [times_top, beh_def]; decide)
/-- THE TWO WAYS TO JOIN ARE ONE. -/
theorem joined_eq (a b : BitVec 32) (n : Nat) : joined a b n = rjoined a b n := by
  rw [joined_is, rjoined_def, rpw_is, byte_is]
theorem joined_joined (a b c : BitVec 32) (n m : Nat) : joined (joined a b n) c m = joined a (joined b c m) (n + m) := by
  rw [joined_is, joined_is, joined_is, joined_is, iter_lin beh_lin, ← iter_add, Nat.add_comm m n, BitVec.xor_assoc]
theorem more_joined (a : BitVec 32) (xs : List Int) : more a xs = joined a (more 0 xs) xs.length := by rw [joined_is, more_is]
end Go.Proofs.Ytilmjclfgjigeaa.Crc
