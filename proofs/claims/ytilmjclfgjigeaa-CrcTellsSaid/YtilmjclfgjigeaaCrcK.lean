/- Up to 32 neighbouring bits that are turned are seen by the sum: the plain law (every text, every place, every turning). -/
import Derived.Test.YtilmjclfgjigeaaCrcE
namespace Go.Proofs.Ytilmjclfgjigeaa.Crc
open Go

/-! ### A sum goes bit by bit -/
def one (b : Bool) : BitVec 32 := if b then 1#32 else 0#32
def ser (n : BitVec 32) : List Bool → BitVec 32
  | [] => n
  | b :: bs => ser (bit (n ^^^ one b)) bs
theorem ser_append (xs ys : List Bool) : ∀ n, ser n (xs ++ ys) = ser (ser n xs) ys := by
  induction xs with
  | nil => intro n; rfl
  | cons x xs ih => intro n; exact ih _
theorem ser_snoc (xs : List Bool) (b : Bool) (n : BitVec 32) : ser n (xs ++ [b]) = bit (ser n xs ^^^ one b) := by rw [ser_append]; rfl
def lo8 (x : BitVec 32) : BitVec 32 := x &&& 255#32
def bits8 (x : BitVec 32) : List Bool := (List.range 8).map fun i => x.getLsbD i
/-- A number below 2 ^ 32 whose lowest bits go out. -/
theorem bit_shl (y : BitVec 32) (h : y.getLsbD 31 = false) : bit (y <<< 1) = y := by
  rw [bit_even _ (by simp)]
  apply BitVec.eq_of_getLsbD_eq
  intro i hi
  simp only [BitVec.getLsbD_ushiftRight, BitVec.getLsbD_shiftLeft]
  by_cases h2 : i = 31
  · subst h2; rw [h]; rfl
  · simp [show 1 + i < 32 by omega]
theorem split_low (y : BitVec 32) : y = one (y.getLsbD 0) ^^^ ((y >>> 1) <<< 1) := by
  apply BitVec.eq_of_getLsbD_eq
  intro i hi
  simp only [BitVec.getLsbD_xor, BitVec.getLsbD_shiftLeft, BitVec.getLsbD_ushiftRight]
  have ho : (one (y.getLsbD 0)).getLsbD i = (decide (i = 0) && y.getLsbD 0) := by
    unfold one
    cases y.getLsbD 0
    · simp
    · simp [BitVec.getLsbD_one]
  rw [ho]
  by_cases h0 : i = 0
  · subst h0; simp
  · simp [h0, hi, show ¬ i < 1 by omega, show 1 + (i - 1) = i by omega]
theorem bit_step (d y : BitVec 32) : bit (d ^^^ y) = bit (d ^^^ one (y.getLsbD 0)) ^^^ (y >>> 1) := by
  have h : d ^^^ y = (d ^^^ one (y.getLsbD 0)) ^^^ ((y >>> 1) <<< 1) := by
    rw [BitVec.xor_assoc, ← split_low y]
  rw [h, bit_lin, bit_shl _ (by simp)]
theorem ser_bits (m : Nat) : ∀ (k : Nat) (n y : BitVec 32), ser n ((List.range' k m).map fun i => y.getLsbD i) ^^^ (y >>> (k + m)) = iter bit m (n ^^^ (y >>> k)) := by
  induction m with
  | zero => intro k n y; rfl
  | succ m ih =>
    intro k n y
    rw [List.range'_succ, List.map_cons, iter_succ']
    show ser (bit (n ^^^ one (y.getLsbD k))) _ ^^^ _ = _
    have h0 : y.getLsbD k = (y >>> k).getLsbD 0 := by simp
    rw [bit_step n (y >>> k), ← h0, ← BitVec.shiftRight_add, ← ih (k + 1), show k + (m + 1) = k + 1 + m by omega]
theorem u_byte_hi {x : Int} (h : (Lit.int .u8 x).wf = true) : u x >>> 8 = 0#32 := by
  have hmin : IntKind.u8.min = 0 := rfl
  have hmax : IntKind.u8.max = 255 := rfl
  simp only [Lit.wf, Bool.and_eq_true, decide_eq_true_eq] at h
  obtain ⟨n, rfl⟩ := Int.eq_ofNat_of_zero_le (show 0 ≤ x by omega)
  have : u ((n : Nat) : Int) = BitVec.ofNat 32 n := by unfold u; rw [BitVec.ofInt_natCast]
  rw [this]
  apply BitVec.eq_of_toNat_eq
  simp only [BitVec.toNat_ushiftRight, BitVec.toNat_ofNat, Nat.shiftRight_eq_div_pow]
  have : n < 256 := by omega
  rw [Nat.mod_eq_of_lt (by omega)]
  simp; omega
theorem beh_ser {x : Int} (h : (Lit.int .u8 x).wf = true) (n : BitVec 32) : beh (n ^^^ u x) = ser n ((List.range' 0 8).map fun i => (u x).getLsbD i) := by
  have h1 := ser_bits 8 0 n (u x)
  rw [Nat.zero_add, u_byte_hi h, BitVec.xor_zero, BitVec.ushiftRight_zero] at h1
  rw [h1, beh_def]
def bitAt (xs : List Int) (k : Nat) : Bool := (u (xs.getD (k / 8) 0)).getLsbD (k % 8)
theorem run_ser (xs : List Int) (n : BitVec 32) (hw : ∀ x ∈ xs, (Lit.int .u8 x).wf = true) : ∀ m, m ≤ xs.length → run n (xs.take m) = ser n ((List.range (8 * m)).map (bitAt xs))
  | 0, _ => rfl
  | m + 1, h => by
    have hm : (Lit.int .u8 (xs.getD m 0)).wf = true := by
      rw [List.getD_eq_getElem?_getD, List.getElem?_eq_getElem h]
      exact hw _ (List.getElem_mem _)
    rw [run_take xs m h, beh_ser hm, run_ser xs n hw m (by omega)]
    have hr : List.range (8 * (m + 1)) = List.range (8 * m) ++ (List.range' 0 8).map (8 * m + ·) := by
      rw [show 8 * (m + 1) = 8 * m + 8 by omega, List.range_add]
      rfl
    rw [hr, List.map_append, ser_append, List.map_map]
    congr 1
    apply List.map_congr_left
    intro i hi
    have hi8 : i < 8 := by simpa using hi
    show (u (xs.getD m 0)).getLsbD i = (u (xs.getD ((8 * m + i) / 8) 0)).getLsbD ((8 * m + i) % 8)
    rw [show (8 * m + i) / 8 = m by omega, show (8 * m + i) % 8 = i by omega]
theorem ser_xor (ks : List Nat) (f g : Nat → Bool) : ∀ n m, ser n (ks.map f) ^^^ ser m (ks.map g) = ser (n ^^^ m) (ks.map fun k => f k ^^ g k) := by
  induction ks with
  | nil => intro n m; rfl
  | cons k ks ih =>
    intro n m
    show ser (bit (n ^^^ one (f k))) (ks.map f) ^^^ ser (bit (m ^^^ one (g k))) (ks.map g) = ser (bit (n ^^^ m ^^^ one (f k ^^ g k))) _
    rw [ih, ← bit_lin, xor4]
    congr 3
    cases f k <;> cases g k <;> rfl

/-! ### A burst -/
def burst (f : Nat) (t : BitVec 32) (k : Nat) : Bool := decide (f ≤ k) && t.getLsbD (k - f)
theorem ser_quiet (f : Nat) (t : BitVec 32) : ∀ m, m ≤ f → ser 0#32 ((List.range m).map (burst f t)) = 0#32
  | 0, _ => rfl
  | m + 1, h => by
    rw [List.range_succ, List.map_append, List.map_cons, List.map_nil, ser_snoc, ser_quiet f t m (by omega)]
    have : burst f t m = false := by simp [burst]; omega
    rw [this]; decide
theorem ser_burst (f : Nat) (t : BitVec 32) : ∀ m, ser 0#32 ((List.range (f + m)).map (burst f t)) ^^^ (t >>> m) = iter bit m t
  | 0 => by rw [Nat.add_zero, ser_quiet f t f (Nat.le_refl _)]; simp [iter]
  | m + 1 => by
    rw [← Nat.add_assoc, List.range_succ, List.map_append, List.map_cons, List.map_nil, ser_snoc]
    show _ = bit (iter bit m t)
    rw [← ser_burst f t m, bit_step _ (t >>> m), ← BitVec.shiftRight_add]
    congr 3
    have : burst f t (f + m) = t.getLsbD m := by simp [burst]
    rw [this]; simp
theorem bit_zero {n : BitVec 32} (h : bit n = 0#32) : n = 0#32 := by
  cases h0 : n.getLsbD 0 with
  | true =>
    rw [bit_odd n h0] at h
    have := congrArg (fun x : BitVec 32 => x.getLsbD 31) h
    simp at this
  | false =>
    rw [bit_even n h0] at h
    rw [split_low n, h0, h]; decide
theorem iter_bit_zero {n : BitVec 32} : ∀ m, iter bit m n = 0#32 → n = 0#32
  | 0, h => h
  | m + 1, h => iter_bit_zero m (bit_zero h)

/-! ### Bytes that are turned -/
theorem ofInt_bit8 (x : Int) (j : Nat) (h : j < 8) : (u x).getLsbD j = (BitVec.ofInt 8 x).getLsbD j := by
  unfold u
  rw [BitVec.getLsbD, BitVec.getLsbD, BitVec.toNat_ofInt, BitVec.toNat_ofInt]
  have h1 : (x % (2 ^ 8 : Nat)).toNat = (x % (2 ^ 32 : Nat)).toNat % 2 ^ 8 := by omega
  rw [h1, Nat.testBit_mod_two_pow]
  simp [h]
theorem xor8_bit (x y : Int) (j : Nat) (h : j < 8) : (u (Go.bits .xor .u8 x y)).getLsbD j = ((u x).getLsbD j ^^ (u y).getLsbD j) := by
  have hb : Go.bits .xor .u8 x y = (((BitVec.ofInt 8 x ^^^ BitVec.ofInt 8 y).toNat : Nat) : Int) := by
    show IntKind.u8.wrap ((BitVec.ofInt 8 x ^^^ BitVec.ofInt 8 y).toNat : Int) = _
    rw [IntKind.wrap_u8]
    have := (BitVec.ofInt 8 x ^^^ BitVec.ofInt 8 y).isLt
    omega
  have hu : ∀ b : BitVec 8, u ((b.toNat : Nat) : Int) = BitVec.ofNat 32 b.toNat := fun b => by unfold u; rw [BitVec.ofInt_natCast]
  rw [hb, hu, BitVec.getLsbD_ofNat, ofInt_bit8 x j h, ofInt_bit8 y j h, BitVec.toNat_xor, Nat.testBit_xor]
  simp [show j < 32 by omega, BitVec.getLsbD]
theorem xor8_wf (x y : Int) : (Lit.int .u8 (Go.bits .xor .u8 x y)).wf = true := by
  have hb : Go.bits .xor .u8 x y = (((BitVec.ofInt 8 x ^^^ BitVec.ofInt 8 y).toNat : Nat) : Int) := by
    show IntKind.u8.wrap ((BitVec.ofInt 8 x ^^^ BitVec.ofInt 8 y).toNat : Int) = _
    rw [IntKind.wrap_u8]
    have := (BitVec.ofInt 8 x ^^^ BitVec.ofInt 8 y).isLt
    omega
  have hmin : IntKind.u8.min = 0 := rfl
  have hmax : IntKind.u8.max = 255 := rfl
  have := (BitVec.ofInt 8 x ^^^ BitVec.ofInt 8 y).isLt
  rw [hb]
  simp only [Lit.wf, Bool.and_eq_true, decide_eq_true_eq]
  omega
/-- The bit k turned, as the program does it. -/
def flip (xs : List Int) (k : Nat) : List Int := xs.set (k / 8) (Go.bits .xor .u8 (xs.getD (k / 8) 0) ((2 : Int) ^ (k % 8) % 256))
theorem flip_length (xs : List Int) (k : Nat) : (flip xs k).length = xs.length := by simp [flip]
theorem pow_bit (a j : Nat) (ha : a < 8) (hj : j < 8) : (u ((2 : Int) ^ a % 256)).getLsbD j = decide (j = a) := by
  have h : ∀ a, a < 8 → ∀ j, j < 8 → (u ((2 : Int) ^ a % 256)).getLsbD j = decide (j = a) := by decide
  exact h a ha j hj
theorem flip_bit (xs : List Int) (k0 k : Nat) (h : k0 / 8 < xs.length) : bitAt (flip xs k0) k = (bitAt xs k ^^ decide (k = k0)) := by
  unfold bitAt flip
  by_cases hb : k / 8 = k0 / 8
  · rw [hb, List.getD_eq_getElem?_getD, List.getElem?_set_self h]
    show (u (Go.bits .xor .u8 _ _)).getLsbD (k % 8) = _
    rw [xor8_bit _ _ _ (by omega), pow_bit _ _ (by omega) (by omega)]
    congr 1
    by_cases hk : k = k0
    · subst hk; simp
    · have : ¬ k % 8 = k0 % 8 := by omega
      simp [hk, this]
  · rw [List.getD_eq_getElem?_getD, List.getElem?_set_ne (Ne.symm hb), ← List.getD_eq_getElem?_getD]
    have : ¬ k = k0 := by rintro rfl; exact hb rfl
    simp [this]
theorem flip_wf {xs : List Int} (hw : ∀ x ∈ xs, (Lit.int .u8 x).wf = true) (k : Nat) : ∀ x ∈ flip xs k, (Lit.int .u8 x).wf = true := by
  intro x hx
  rcases List.mem_or_eq_of_mem_set hx with h | h
  · exact hw x h
  · rw [h]; exact xor8_wf _ _
/-- The text behind i of the 32 bits. -/
def tw (l : List Int) (f : Nat) (t : BitVec 32) : Nat → List Int
  | 0 => l
  | i + 1 => if (t.getLsbD i && decide ((f + i) / 8 < l.length)) = true then flip (tw l f t i) (f + i) else tw l f t i
theorem tw_succ (l : List Int) (f : Nat) (t : BitVec 32) (i : Nat) : tw l f t (i + 1) = if (t.getLsbD i && decide ((f + i) / 8 < l.length)) = true then flip (tw l f t i) (f + i) else tw l f t i := rfl
theorem tw_length (l : List Int) (f : Nat) (t : BitVec 32) : ∀ i, (tw l f t i).length = l.length
  | 0 => rfl
  | i + 1 => by
    rw [tw_succ]
    split
    · rw [flip_length, tw_length l f t i]
    · exact tw_length l f t i
theorem tw_wf (l : List Int) (f : Nat) (t : BitVec 32) (hw : ∀ x ∈ l, (Lit.int .u8 x).wf = true) : ∀ i, ∀ x ∈ tw l f t i, (Lit.int .u8 x).wf = true
  | 0 => hw
  | i + 1 => by
    rw [tw_succ]
    split
    · exact flip_wf (tw_wf l f t hw i) _
    · exact tw_wf l f t hw i
theorem tw_bit (l : List Int) (f : Nat) (t : BitVec 32) (k : Nat) (hk : k < 8 * l.length) : ∀ i, bitAt (tw l f t i) k = (bitAt l k ^^ (decide (f ≤ k) && decide (k < f + i) && t.getLsbD (k - f)))
  | 0 => by
    show bitAt l k = _
    by_cases h : f ≤ k
    · simp [show ¬ k < f by omega]
    · simp [h]
  | i + 1 => by
    rw [tw_succ]
    by_cases hc : (t.getLsbD i && decide ((f + i) / 8 < l.length)) = true
    · rw [if_pos hc, flip_bit _ _ _ (by rw [tw_length]; simp at hc; exact hc.2), tw_bit l f t k hk i, Bool.xor_assoc]
      congr 1
      simp only [Bool.and_eq_true, decide_eq_true_eq] at hc
      by_cases h1 : k = f + i
      · subst h1; simp [hc.1]
      · by_cases h2 : f ≤ k
        · by_cases h3 : k < f + i
          · simp [h1, h2, h3, show k < f + (i + 1) by omega]
          · simp [h1, h2, h3, show ¬ k < f + (i + 1) by omega]
        · simp [h1, h2]
    · rw [if_neg hc, tw_bit l f t k hk i]
      congr 1
      by_cases h1 : k = f + i
      · subst h1
        have : t.getLsbD i = false := by
          cases ht : t.getLsbD i
          · rfl
          · exfalso; apply hc; rw [ht]; simp; omega
        simp [this]
      · by_cases h2 : f ≤ k
        · by_cases h3 : k < f + i
          · simp [h2, h3, show k < f + (i + 1) by omega]
          · simp [h2, h3, show ¬ k < f + (i + 1) by omega]
        · simp [h2]
/-- THE PLAIN LAW. -/
theorem tells (l : List Int) (f : Nat) (t : BitVec 32) (hw : ∀ x ∈ l, (Lit.int .u8 x).wf = true) (hf : f < 8 * l.length) (h : more 0#32 (tw l f t 32) = more 0#32 l) : tw l f t 32 = l := by
  obtain ⟨m, hm⟩ : ∃ m, 8 * l.length = f + m := ⟨8 * l.length - f, by omega⟩
  -- the turning within the text
  have hrun : run (~~~ 0#32) (tw l f t 32) = run (~~~ 0#32) l := by
    have := congrArg (fun x : BitVec 32 => ~~~ x) h
    unfold more at this
    simpa [BitVec.not_not] using this
  have e1 := run_ser (tw l f t 32) (~~~ 0#32) (tw_wf l f t hw 32) l.length (by rw [tw_length]; exact Nat.le_refl _)
  have e2 := run_ser l (~~~ 0#32) hw l.length (Nat.le_refl _)
  rw [List.take_of_length_le (by rw [tw_length]; omega)] at e1
  rw [List.take_length] at e2
  have hz : ser 0#32 ((List.range (f + m)).map (burst f (BitVec.ofNat 32 (t.toNat % 2 ^ m)))) = 0#32 := by
    have hx := ser_xor (List.range (8 * l.length)) (bitAt (tw l f t 32)) (bitAt l) (~~~ 0#32) (~~~ 0#32)
    rw [← e1, ← e2, hrun, BitVec.xor_self, BitVec.xor_self] at hx
    refine Eq.trans ?_ hx.symm
    rw [← hm]
    congr 1
    apply List.map_congr_left
    intro k hk
    have hk' : k < 8 * l.length := by simpa using hk
    rw [tw_bit l f t k hk' 32]
    have hT : (BitVec.ofNat 32 (t.toNat % 2 ^ m)).getLsbD (k - f) = (decide (k - f < 32) && (decide (k - f < m) && t.getLsbD (k - f))) := by
      rw [BitVec.getLsbD_ofNat, Nat.testBit_mod_two_pow]; rfl
    unfold burst
    rw [hT]
    by_cases h2 : f ≤ k
    · by_cases h3 : k < f + 32
      · cases bitAt l k <;> simp [h2, h3, show k - f < 32 by omega, show k - f < m by omega]
      · cases bitAt l k <;> simp [h2, h3, show ¬ k - f < 32 by omega]
    · cases bitAt l k <;> simp [h2]
  have hs := ser_burst f (BitVec.ofNat 32 (t.toNat % 2 ^ m)) m
  rw [hz, BitVec.zero_xor] at hs
  have hT0 : (BitVec.ofNat 32 (t.toNat % 2 ^ m)) >>> m = 0#32 := by
    apply BitVec.eq_of_getLsbD_eq
    intro i hi
    rw [BitVec.getLsbD_ushiftRight, BitVec.getLsbD_ofNat, Nat.testBit_mod_two_pow, decide_eq_false (show ¬ m + i < m by omega)]
    simp
  rw [hT0] at hs
  have hT := iter_bit_zero m hs.symm
  have hno : ∀ i, i < 32 → (t.getLsbD i && decide ((f + i) / 8 < l.length)) = false := by
    intro i hi
    have hb := congrArg (fun x : BitVec 32 => x.getLsbD i) hT
    simp only [BitVec.getLsbD_ofNat, Nat.testBit_mod_two_pow, hi, decide_true, Bool.true_and] at hb
    by_cases h3 : (f + i) / 8 < l.length
    · have : i < m := by omega
      simp only [this, decide_true, Bool.true_and] at hb
      have h0 : t.getLsbD i = false := by rw [BitVec.getLsbD, hb]; simp
      rw [h0]; rfl
    · simp [h3]
  have hall : ∀ i, i ≤ 32 → tw l f t i = l := by
    intro i
    induction i with
    | zero => intro _; rfl
    | succ i ih =>
      intro hi
      rw [tw_succ, hno i (by omega), if_neg (by simp)]
      exact ih (by omega)
  exact hall 32 (Nat.le_refl _)
end Go.Proofs.Ytilmjclfgjigeaa.Crc
