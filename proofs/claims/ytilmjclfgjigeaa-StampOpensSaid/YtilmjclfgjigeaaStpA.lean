/- Numbers as bytes, blocks that are sealed and opened: plain functions on lists (no condition). -/
import Derived.Test.YtilmjclfgjigeaaOrd
import Derived.Test.YtilmjclfgjigeaaCrcE
set_option linter.unusedVariables false
set_option linter.unusedSimpArgs false
namespace Go.Proofs.Ytilmjclfgjigeaa.Stp
open Go Odr Crc

theorem pow8 (j : Nat) : (2 : Int) ^ (8 * (j + 1)) = 256 * (2 : Int) ^ (8 * j) := by
  rw [show 8 * (j + 1) = 8 * j + 8 by omega, Int.pow_add]; omega
theorem pow8_pos (j : Nat) : 0 < (2 : Int) ^ (8 * j) := Int.pow_pos (by decide)
theorem be_snoc (m y : Int) (k : Nat) (h0 : 0 ≤ y) (h1 : y < 256) : be (m * 256 + y) (k + 1) = be m k ++ [y] := by
  unfold be
  rw [List.range_succ, List.map_append]
  congr 1
  · apply List.map_congr_left
    intro i hi
    have hi' : i < k := by simpa using hi
    have e : k + 1 - 1 - i = (k - 1 - i) + 1 := by omega
    rw [e, pow8, ← Int.ediv_ediv_of_nonneg (by decide), show (m * 256 + y) / 256 = m by omega]
  · simp; omega
theorem be_getN : ∀ (k : Nat) (ys : List Int), ys.length = k → (∀ x ∈ ys, (Lit.int .u8 x).wf = true) → be (getN ys) k = ys := by
  intro k
  induction k with
  | zero => intro ys h _; rw [List.eq_nil_of_length_eq_zero h]; rfl
  | succ k ih =>
    intro ys h hw
    rcases List.eq_nil_or_concat ys with h0 | ⟨zs, z, rfl⟩
    · subst h0; simp at h
    · rw [List.concat_eq_append] at h hw ⊢
      have hz := Base2.le_of_wf8 (hw z (by simp))
      rw [getN_snoc, be_snoc _ _ _ hz.1 hz.2, ih zs (by simpa using h) (fun x hx => hw x (by simp [hx]))]
theorem getN_be : ∀ (k : Nat) (m : Int), 0 ≤ m → m < (256 : Int) ^ k → getN (be m k) = m := by
  intro k
  induction k with
  | zero => intro m h0 h1; have : m = 0 := by simp at h1; omega
            subst this; rfl
  | succ k ih =>
    intro m h0 h1
    rw [Int.pow_succ] at h1
    have e : m = (m / 256) * 256 + m % 256 := by omega
    have h2 : be m (k + 1) = be (m / 256) k ++ [m % 256] := by
      conv => lhs; rw [e]
      exact be_snoc _ _ _ (by omega) (by omega)
    rw [h2, getN_snoc, ih (m / 256) (by omega) (by omega)]
    omega
theorem getN_eq (k : Nat) (ys : List Int) (m : Int) (hl : ys.length = k) (hw : ∀ x ∈ ys, (Lit.int .u8 x).wf = true) (h0 : 0 ≤ m) (h1 : m < (256 : Int) ^ k) : getN ys = m ↔ ys = be m k :=
  ⟨fun h => by rw [← h, be_getN k ys hl hw], fun h => by rw [h, getN_be k m h0 h1]⟩
theorem be_inj (k : Nat) (m n : Int) (h0 : 0 ≤ m) (h1 : m < (256 : Int) ^ k) (h2 : 0 ≤ n) (h3 : n < (256 : Int) ^ k) (h : be m k = be n k) : m = n := by
  rw [← getN_be k m h0 h1, ← getN_be k n h2 h3, h]

/-- A payload with noughts behind it. -/
def pad (p : List Int) : List Int := p ++ List.replicate (240 - p.length) 0
theorem pad_length (p : List Int) (h : p.length ≤ 240) : (pad p).length = 240 := by simp [pad]; omega
def u64 (n : Int) : Int := n % 18446744073709551616
/-- A block but for its sum. -/
def head (p : List Int) (at_ kind : Int) : List Int := pad p ++ be (u64 at_) 8 ++ be kind 4
theorem head_length (p : List Int) (at_ kind : Int) (h : p.length ≤ 240) : (head p at_ kind).length = 252 := by simp [head, pad_length p h, be_length]
def sumOf (xs : List Int) : Int := ((more 0#32 xs).toNat : Int)
theorem sumOf_range (xs : List Int) : 0 ≤ sumOf xs ∧ sumOf xs < 4294967296 := by
  unfold sumOf; have := (more 0#32 xs).isLt; omega
def sealL (p : List Int) (at_ kind : Int) : List Int := head p at_ kind ++ be (sumOf (head p at_ kind)) 4
theorem sealL_length (p : List Int) (at_ kind : Int) (h : p.length ≤ 240) : (sealL p at_ kind).length = 256 := by simp [sealL, head_length p _ _ h, be_length]
theorem pad_wf (p : List Int) (hw : ∀ x ∈ p, (Lit.int .u8 x).wf = true) : ∀ x ∈ pad p, (Lit.int .u8 x).wf = true := by
  intro x hx
  rcases List.mem_append.1 hx with h | h
  · exact hw x h
  · rw [List.eq_of_mem_replicate h]; rfl
theorem head_wf (p : List Int) (at_ kind : Int) (hw : ∀ x ∈ p, (Lit.int .u8 x).wf = true) : ∀ x ∈ head p at_ kind, (Lit.int .u8 x).wf = true := by
  intro x hx
  rcases List.mem_append.1 hx with h | h
  · rcases List.mem_append.1 h with h | h
    · exact pad_wf p hw x h
    · exact be_range _ _ x h
  · exact be_range _ _ x h
theorem sealL_wf (p : List Int) (at_ kind : Int) (hw : ∀ x ∈ p, (Lit.int .u8 x).wf = true) : ∀ x ∈ sealL p at_ kind, (Lit.int .u8 x).wf = true := by
  intro x hx
  rcases List.mem_append.1 hx with h | h
  · exact head_wf p at_ kind hw x h
  · exact be_range _ _ x h
/-- Why bytes are no block, by the error's number; 0: they are one. -/
def openE (b : List Int) (at_ kind : Int) : Int :=
  if b.length < 256 then 4 else if 256 < b.length then 3
  else if b.drop 252 ≠ be (sumOf (b.take 252)) 4 then 20
  else if (b.drop 240).take 8 ≠ be (u64 at_) 8 then 21
  else if (b.drop 248).take 4 ≠ be kind 4 then 22 else 0
def openL (b : List Int) (at_ kind : Int) : List Int := if openE b at_ kind = 0 then b.take 240 else []
theorem openL_ok {b : List Int} {at_ kind : Int} (h : openE b at_ kind = 0) : openL b at_ kind = b.take 240 := by rw [openL, if_pos h]
theorem openL_no {b : List Int} {at_ kind : Int} (h : openE b at_ kind ≠ 0) : openL b at_ kind = [] := by rw [openL, if_neg h]

/-! ### Tables -/
def tab (n : Nat) (f : Nat → Int) : List Int := (List.range n).map f
theorem tab_length (n : Nat) (f : Nat → Int) : (tab n f).length = n := by simp [tab]
theorem tab_get (n : Nat) (f : Nat → Int) (i : Nat) (h : i < n) : (tab n f)[i]? = some (f i) := by simp [tab, h]
theorem tab_set (n : Nat) (f : Nat → Int) (k : Nat) (v : Int) : (tab n f).set k v = tab n (fun i => if i = k then v else f i) := by
  apply List.ext_getElem?
  intro i
  rw [List.getElem?_set]
  by_cases h : k = i
  · subst h
    rw [if_pos rfl, tab_length]
    by_cases hk : k < n
    · rw [if_pos hk, tab_get _ _ _ hk, if_pos rfl]
    · rw [if_neg hk]; symm; rw [List.getElem?_eq_none]; rw [tab_length]; omega
  · rw [if_neg h]
    by_cases hi : i < n
    · rw [tab_get _ _ _ hi, tab_get _ _ _ hi, if_neg (Ne.symm h)]
    · rw [List.getElem?_eq_none (by rw [tab_length]; omega), List.getElem?_eq_none (by rw [tab_length]; omega)]
theorem tab_congr {n : Nat} {f g : Nat → Int} (h : ∀ i, i < n → f i = g i) : tab n f = tab n g := by
  unfold tab
  apply List.map_congr_left
  intro i hi
  exact h i (by simpa using hi)
theorem tab_of (xs : List Int) (n : Nat) (h : xs.length = n) : xs = tab n (fun i => xs.getD i 0) := by
  apply List.ext_getElem?
  intro i
  by_cases hi : i < n
  · rw [tab_get _ _ _ hi, List.getElem?_eq_getElem (by omega), List.getD_eq_getElem?_getD, List.getElem?_eq_getElem (by omega)]; rfl
  · rw [List.getElem?_eq_none (by omega), List.getElem?_eq_none (by rw [tab_length]; omega)]
theorem getD_app_left (xs ys : List Int) (i : Nat) (h : i < xs.length) : (xs ++ ys).getD i 0 = xs.getD i 0 := by
  rw [List.getD_eq_getElem?_getD, List.getD_eq_getElem?_getD, List.getElem?_append_left h]
theorem getD_app_right (xs ys : List Int) (i : Nat) (h : xs.length ≤ i) : (xs ++ ys).getD i 0 = ys.getD (i - xs.length) 0 := by
  rw [List.getD_eq_getElem?_getD, List.getD_eq_getElem?_getD, List.getElem?_append_right h]
theorem be_getD (n : Int) (size i : Nat) (h : i < size) : (be n size).getD i 0 = n / (2 : Int) ^ (8 * (size - 1 - i)) % 256 := by
  rw [List.getD_eq_getElem?_getD]; simp [be, h]
theorem pad_getD (p : List Int) (i : Nat) : (pad p).getD i 0 = p.getD i 0 := by
  by_cases h : i < p.length
  · exact getD_app_left _ _ _ h
  · unfold pad
    rw [getD_app_right _ _ _ (by omega), List.getD_eq_getElem?_getD, List.getD_eq_getElem?_getD, List.getElem?_eq_none (l := p) (by omega)]
    by_cases h2 : i - p.length < 240 - p.length
    · simp [h2]
    · rw [List.getElem?_eq_none (by simp; omega)]
/-- The place i of a block, but for its sum. -/
def headF (p : List Int) (at_ kind : Int) (i : Nat) : Int :=
  if i < 240 then p.getD i 0 else if i < 248 then u64 at_ / (2 : Int) ^ (8 * (247 - i)) % 256 else kind / (2 : Int) ^ (8 * (251 - i)) % 256
theorem head_tab (p : List Int) (at_ kind : Int) (h : p.length ≤ 240) : head p at_ kind = tab 252 (headF p at_ kind) := by
  rw [tab_of _ 252 (head_length p at_ kind h)]
  apply tab_congr
  intro i hi
  unfold head headF
  have h1 : (pad p).length = 240 := pad_length p h
  by_cases a : i < 240
  · rw [if_pos a, getD_app_left _ _ _ (by rw [List.length_append, h1]; omega), getD_app_left _ _ _ (by omega), pad_getD]
  · rw [if_neg a]
    by_cases b : i < 248
    · rw [if_pos b, getD_app_left _ _ _ (by rw [List.length_append, h1, be_length]; omega), getD_app_right _ _ _ (by omega), h1, be_getD _ _ _ (by omega), show 8 - 1 - (i - 240) = 247 - i by omega]
    · rw [if_neg b, getD_app_right _ _ _ (by rw [List.length_append, h1, be_length]; omega), List.length_append, h1, be_length, be_getD _ _ _ (by omega), show 4 - 1 - (i - (240 + 8)) = 251 - i by omega]
theorem seal_tab (p : List Int) (at_ kind : Int) (h : p.length ≤ 240) : sealL p at_ kind = tab 256 (fun i => if i < 252 then headF p at_ kind i else sumOf (head p at_ kind) / (2 : Int) ^ (8 * (255 - i)) % 256) := by
  rw [tab_of _ 256 (sealL_length p at_ kind h)]
  apply tab_congr
  intro i hi
  unfold sealL
  have h1 := head_length p at_ kind h
  by_cases a : i < 252
  · rw [if_pos a, getD_app_left _ _ _ (by omega), head_tab p at_ kind h, List.getD_eq_getElem?_getD, tab_get _ _ _ a]; rfl
  · rw [if_neg a, getD_app_right _ _ _ (by omega), h1, be_getD _ _ _ (by omega), show 4 - 1 - (i - 252) = 255 - i by omega]
end Go.Proofs.Ytilmjclfgjigeaa.Stp
