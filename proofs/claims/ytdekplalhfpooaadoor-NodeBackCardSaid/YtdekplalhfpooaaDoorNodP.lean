/- What is put is taken as it was; what is taken was put so; a form that is cut is none: plain. -/
import Derived.Test.YtdekplalhfpooaaDoorNodN
set_option linter.unusedVariables false
set_option linter.unusedSimpArgs false
namespace Go.Proofs.YtdekplalhfpooaaDoor.Nod
open Go Go.RowKit Go.Proofs.YtdekplalhfpooaaDoorW.PrintWords Go.Proofs.YtdekplalhfpooaaDoorW.PrintLast Go.Proofs.YtdekplalhfpooaaDoorW.PrintMore Base Odr Hlp

theorem be_snoc (m y : Int) (k : Nat) (h0 : 0 ≤ y) (h1 : y < 256) : be (m * 256 + y) (k + 1) = be m k ++ [y] := by
  unfold be
  rw [List.range_succ, List.map_append]
  congr 1
  · apply List.map_congr_left
    intro i hi
    have hi' : i < k := by simpa using hi
    have e : k + 1 - 1 - i = (k - 1 - i) + 1 := by omega
    rw [e, pow8, ← Int.ediv_ediv_of_nonneg (by decide), show (m * 256 + y) / 256 = m by omega]
  · simp; omega
theorem getN_be : ∀ (k : Nat) (m : Int), 0 ≤ m → m < (256 : Int) ^ k → getN (be m k) = m := by
  intro k
  induction k with
  | zero => intro m h0 h1; have : m = 0 := by simp at h1; omega
            subst this; rfl
  | succ k ih =>
    intro m h0 h1
    rw [Int.pow_succ] at h1
    have e : m = (m / 256) * 256 + m % 256 := by omega
    have h2 : be m (k + 1) = be (m / 256) k ++ [m % 256] := by
      conv => lhs; rw [e]
      exact be_snoc _ _ _ (by omega) (by omega)
    rw [h2, getN_snoc, ih (m / 256) (by omega) (by omega)]
    omega
theorem be_getN : ∀ (k : Nat) (xs : List Int), xs.length = k → (∀ x ∈ xs, (Lit.int .u8 x).wf = true) → be (getN xs) k = xs := by
  intro k
  induction k with
  | zero => intro xs h _; rw [List.eq_nil_of_length_eq_zero h]; rfl
  | succ k ih =>
    intro xs h hw
    rcases List.eq_nil_or_concat xs with h0 | ⟨ys, y, rfl⟩
    · subst h0; simp at h
    · rw [List.concat_eq_append] at h hw ⊢
      have hy := le_of_wf8 (hw y (by simp))
      rw [getN_snoc, be_snoc _ _ _ hy.1 hy.2, ih ys (by simpa using h) (fun x hx => hw x (by simp [hx]))]
theorem p256 : (256 : Int) ^ 8 = 18446744073709551616 := by decide
/-- Pairs' bytes. -/
def pairsL : List Int → List Int → List Int
  | k :: K, v :: V => be k 8 ++ (be v 8 ++ pairsL K V)
  | _, _ => []
theorem pairsL_snoc (k v : Int) : ∀ (K V : List Int), K.length = V.length → pairsL (K ++ [k]) (V ++ [v]) = pairsL K V ++ be k 8 ++ be v 8
  | [], [], _ => by simp [pairsL]
  | a :: K, b :: V, h => by
    simp only [List.cons_append, pairsL]
    rw [pairsL_snoc k v K V (by simpa using h)]
    simp only [List.append_assoc]
  | [], _ :: _, h => by simp at h
  | _ :: _, [], h => by simp at h
theorem pairsL_len : ∀ (K V : List Int), K.length = V.length → (pairsL K V).length = 16 * K.length
  | [], [], _ => rfl
  | a :: K, b :: V, h => by
    simp only [pairsL, List.length_append, be_length, List.length_cons]
    rw [pairsL_len K V (by simpa using h)]; omega
  | [], _ :: _, h => by simp at h
  | _ :: _, [], h => by simp at h
theorem pairs_eq (K V : List Int) (h : K.length = V.length) : ∀ j, j ≤ K.length → pairsTo K V j = pairsL (K.take j) (V.take j) := by
  intro j
  induction j with
  | zero => intro _; rfl
  | succ j ih =>
    intro hj
    rw [pairs_succ, ih (by omega), List.take_succ_eq_append_getElem (show j < K.length by omega), List.take_succ_eq_append_getElem (show j < V.length by omega), pairsL_snoc _ _ _ _ (by simp; omega)]
    rw [List.getD_eq_getElem?_getD, List.getD_eq_getElem?_getD, List.getElem?_eq_getElem (show j < K.length by omega), List.getElem?_eq_getElem (show j < V.length by omega)]
    rfl
theorem form_eq (L : Bool) (K V : List Int) (h : K.length = V.length) : formN L K V = headN L K.length ++ pairsL K V := by
  unfold formN
  rw [pairs_eq K V h K.length (Nat.le_refl _), List.take_of_length_le (Nat.le_refl _), List.take_of_length_le (by omega)]
def okFrom (K V : List Int) (a : Nat) : Prop := ∀ i, a ≤ i → i < K.length → okAt K V i = true
theorem getN8 (k : Int) (r : List Int) (h : 0 ≤ k ∧ k < 18446744073709551616) : getN ((be k 8 ++ r).take 8) = k := by
  rw [List.take_left' (be_length k 8)]
  exact getN_be 8 k h.1 (by rw [p256]; exact h.2)
theorem ok_key {K0 V0 K V : List Int} {k v : Int} (h : okFrom (K0 ++ k :: K) (V0 ++ v :: V) K0.length) (hl : K0.length = V0.length) : v ≠ 0 ∧ ¬ (0 < K0.length ∧ k ≤ K0.getD (K0.length - 1) 0) := by
  have h1 := h K0.length (Nat.le_refl _) (by simp)
  simp only [okAt, Bool.and_eq_true, Bool.or_eq_true, decide_eq_true_eq, Bool.not_eq_true', decide_eq_false_iff_not] at h1
  have e1 : (V0 ++ v :: V).getD K0.length 0 = v := by rw [hl]; simp [List.getD_eq_getElem?_getD]
  have e2 : (K0 ++ k :: K).getD K0.length 0 = k := by simp [List.getD_eq_getElem?_getD]
  rw [e1, e2] at h1
  refine ⟨h1.1, fun ⟨p, q⟩ => ?_⟩
  rcases h1.2 with h2 | h2
  · omega
  · have e3 : (K0 ++ k :: K).getD (K0.length - 1) 0 = K0.getD (K0.length - 1) 0 := by
      rw [List.getD_eq_getElem?_getD, List.getD_eq_getElem?_getD, List.getElem?_append_left (by omega)]
    rw [e3] at h2
    omega
theorem goN_form : ∀ (K V K0 V0 rest : List Int), K.length = V.length → K0.length = V0.length → (∀ x ∈ K, 0 ≤ x ∧ x < 18446744073709551616) → (∀ x ∈ V, 0 ≤ x ∧ x < 18446744073709551616) → okFrom (K0 ++ K) (V0 ++ V) K0.length →
    goN K.length (pairsL K V ++ rest) K0 V0 = ⟨0, K0 ++ K, V0 ++ V, rest⟩
  | [], [], K0, V0, rest, _, _, _, _, _ => by simp [goN, pairsL]
  | k :: K, v :: V, K0, V0, rest, hl, h0, hk, hv, hok => by
    obtain ⟨o1, o2⟩ := ok_key hok h0
    have hk0 := hk k (by simp)
    have hv0 := hv v (by simp)
    rw [show pairsL (k :: K) (v :: V) ++ rest = be k 8 ++ (be v 8 ++ (pairsL K V ++ rest)) by simp only [pairsL, List.append_assoc]]
    show goN (K.length + 1) _ _ _ = _
    unfold goN stV
    rw [if_neg (by simp [be_length]), getN8 k _ hk0, if_neg o2, List.drop_left' (be_length k 8), if_neg (by simp [be_length]), getN8 v _ hv0, if_neg o1, List.drop_left' (be_length v 8)]
    rw [goN_form K V (K0 ++ [k]) (V0 ++ [v]) rest (by simpa using hl) (by simp [h0]) (fun x hx => hk x (by simp [hx])) (fun x hx => hv x (by simp [hx])) (by
      intro i hi hi2
      simp only [List.append_assoc, List.cons_append, List.nil_append] at hi2 ⊢
      exact hok i (by simp at hi; omega) hi2)]
    simp [List.append_assoc]
  | [], _ :: _, _, _, _, h, _, _, _, _ => by simp at h
  | _ :: _, [], _, _, _, h, _, _, _, _ => by simp at h
theorem goN_cut : ∀ (K V K0 V0 : List Int) (c : Nat), K.length = V.length → K0.length = V0.length → (∀ x ∈ K, 0 ≤ x ∧ x < 18446744073709551616) → (∀ x ∈ V, 0 ≤ x ∧ x < 18446744073709551616) → okFrom (K0 ++ K) (V0 ++ V) K0.length → c < 16 * K.length →
    goN K.length ((pairsL K V).take c) K0 V0 = badG 4
  | [], [], _, _, _, _, _, _, _, _, h => by simp at h
  | k :: K, v :: V, K0, V0, c, hl, h0, hk, hv, hok, hc => by
    obtain ⟨o1, o2⟩ := ok_key hok h0
    have hk0 := hk k (by simp)
    have hv0 := hv v (by simp)
    have hpl := pairsL_len K V (by simpa using hl)
    rw [show pairsL (k :: K) (v :: V) = be k 8 ++ (be v 8 ++ pairsL K V) from rfl]
    show goN (K.length + 1) _ _ _ = _
    unfold goN stV
    rcases Nat.lt_or_ge c 8 with c1 | c1
    · rw [if_pos (by rw [List.length_take]; omega)]
    · have e1 : (be k 8 ++ (be v 8 ++ pairsL K V)).take c = be k 8 ++ (be v 8 ++ pairsL K V).take (c - 8) := by
        rw [List.take_append, be_length, List.take_of_length_le (by rw [be_length]; omega)]
      rw [e1, if_neg (by simp [be_length]), getN8 k _ hk0, if_neg o2, List.drop_left' (be_length k 8)]
      rcases Nat.lt_or_ge c 16 with c2 | c2
      · rw [if_pos (by rw [List.length_take]; omega)]
      · have e2 : (be v 8 ++ pairsL K V).take (c - 8) = be v 8 ++ (pairsL K V).take (c - 16) := by
          rw [List.take_append, be_length, List.take_of_length_le (by rw [be_length]; omega), show c - 8 - 8 = c - 16 by omega]
        rw [e2, if_neg (by simp [be_length]), getN8 v _ hv0, if_neg o1, List.drop_left' (be_length v 8)]
        exact goN_cut K V (K0 ++ [k]) (V0 ++ [v]) (c - 16) (by simpa using hl) (by simp [h0]) (fun x hx => hk x (by simp [hx])) (fun x hx => hv x (by simp [hx])) (by
          intro i hi hi2
          simp only [List.append_assoc, List.cons_append, List.nil_append] at hi2 ⊢
          exact hok i (by simp at hi; omega) hi2) (by simp only [List.length_cons] at hc; omega)
  | [], _ :: _, _, _, _, h, _, _, _, _, _ => by simp at h
  | _ :: _, [], _, _, _, h, _, _, _, _, _ => by simp at h
theorem may_ok {K V : List Int} (h : mayN K V = true) : okFrom ([] ++ K) ([] ++ V) 0 := by
  intro i _ hi
  simp only [mayN, Bool.and_eq_true, decide_eq_true_eq, List.all_eq_true, List.mem_range] at h
  exact h.2 i hi
theorem wf_range {K : List Int} (h : ∀ x ∈ K, (Lit.int .u64 x).wf = true) : ∀ x ∈ K, 0 ≤ x ∧ x < 18446744073709551616 := fun x hx => le_of_wfu64 (h x hx)
theorem head_get (L : Bool) (n : Nat) (r : List Int) : (headN L n ++ r).getD 0 0 = (if L then 1 else 0) ∧ (headN L n ++ r).getD 1 0 = (n : Int) ∧ (headN L n ++ r).drop 2 = r ∧ (headN L n ++ r).length = 2 + r.length := by
  refine ⟨rfl, rfl, rfl, ?_⟩
  simp [headN]; omega
theorem take_head (L : Bool) (n : Nat) (r : List Int) (h1 : 1 ≤ n) (h2 : n ≤ 8) : takeN (headN L n ++ r) = endN L (goN n r [] []) := by
  obtain ⟨e0, e1, e2, e3⟩ := head_get L n r
  unfold takeN
  rw [e0, e1, e2, e3, if_neg (by omega), if_neg (by cases L <;> decide), if_neg (by omega), if_neg (by omega), Int.toNat_natCast]
  cases L <;> rfl
/-- What was put, with noughts behind it, is taken as it was. -/
theorem take_form (L : Bool) (K V z : List Int) (hm : mayN K V = true) (hk : ∀ x ∈ K, (Lit.int .u64 x).wf = true) (hv : ∀ x ∈ V, (Lit.int .u64 x).wf = true) (hz : z.all (· == 0) = true) : takeN (formN L K V ++ z) = ⟨0, L, K, V⟩ := by
  obtain ⟨m1, m2, m3⟩ := may_le hm
  rw [form_eq L K V m3.symm, List.append_assoc, take_head L _ _ m1 m2, goN_form K V [] [] z m3.symm rfl (wf_range hk) (wf_range hv) (may_ok hm)]
  simp [endN, hz]
/-- Nothing is told of a form that is cut. -/
theorem take_cut (L : Bool) (K V : List Int) (c : Nat) (hm : mayN K V = true) (hk : ∀ x ∈ K, (Lit.int .u64 x).wf = true) (hv : ∀ x ∈ V, (Lit.int .u64 x).wf = true) (hc : c < (formN L K V).length) : takeN ((formN L K V).take c) = ntN 4 := by
  obtain ⟨m1, m2, m3⟩ := may_le hm
  rw [form_len] at hc
  rw [form_eq L K V m3.symm]
  match c, hc with
  | 0, _ => rfl
  | 1, _ =>
    unfold takeN
    cases L <;> rfl
  | c + 2, hc =>
    have e : (headN L K.length ++ pairsL K V).take (c + 2) = headN L K.length ++ (pairsL K V).take c := by
      rw [List.take_append, show (headN L K.length).length = 2 from rfl, List.take_of_length_le (show (headN L K.length).length ≤ c + 2 from by show 2 ≤ c + 2; omega), show c + 2 - 2 = c by omega]
    rw [e, take_head L _ _ m1 m2, goN_cut K V [] [] c m3.symm rfl (wf_range hk) (wf_range hv) (may_ok hm) (by omega)]
    rfl
theorem goN_back : ∀ (n : Nat) (r K0 V0 : List Int), (∀ x ∈ r, (Lit.int .u8 x).wf = true) → K0.length = V0.length → (goN n r K0 V0).e = 0 →
    ∃ K V, K.length = n ∧ V.length = n ∧ (goN n r K0 V0).K = K0 ++ K ∧ (goN n r K0 V0).V = V0 ++ V ∧ r = pairsL K V ++ (goN n r K0 V0).r ∧ okFrom (K0 ++ K) (V0 ++ V) K0.length ∧ (∀ x ∈ K, 0 ≤ x ∧ x < 18446744073709551616) ∧ (∀ x ∈ V, 0 ≤ x ∧ x < 18446744073709551616) := by
  intro n
  induction n with
  | zero => intro r K0 V0 _ _ _; exact ⟨[], [], rfl, rfl, by simp [goN], by simp [goN], by simp [goN, pairsL], fun i h1 h2 => by simp at h2; omega, by simp, by simp⟩
  | succ n ih =>
    intro r K0 V0 hw h0 he
    have hw2 : ∀ x ∈ r.drop 8, (Lit.int .u8 x).wf = true := fun x hx => hw x (List.mem_of_mem_drop hx)
    unfold goN at he ⊢
    by_cases h1 : r.length < 8
    · rw [if_pos h1] at he; exact absurd he (by decide)
    rw [if_neg h1] at he ⊢
    by_cases h2 : 0 < K0.length ∧ getN (r.take 8) ≤ K0.getD (K0.length - 1) 0
    · rw [if_pos h2] at he; exact absurd he (by decide)
    rw [if_neg h2] at he ⊢
    unfold stV at he ⊢
    by_cases h3 : (r.drop 8).length < 8
    · rw [if_pos h3] at he; exact absurd he (by decide)
    rw [if_neg h3] at he ⊢
    by_cases h4 : getN ((r.drop 8).take 8) = 0
    · rw [if_pos h4] at he; exact absurd he (by decide)
    rw [if_neg h4] at he ⊢
    obtain ⟨K, V, k1, k2, k3, k4, k5, k6, k7, k8⟩ := ih ((r.drop 8).drop 8) (K0 ++ [getN (r.take 8)]) (V0 ++ [getN ((r.drop 8).take 8)]) (fun x hx => hw2 x (List.mem_of_mem_drop hx)) (by simp [h0]) he
    have b1 := getN_bound 8 (r.take 8) (by rw [List.length_take]; omega) (fun x hx => hw x (List.mem_of_mem_take hx))
    have b2 := getN_bound 8 ((r.drop 8).take 8) (by rw [List.length_take]; omega) (fun x hx => hw2 x (List.mem_of_mem_take hx))
    rw [p256] at b1 b2
    have e1 := be_getN 8 (r.take 8) (by rw [List.length_take]; omega) (fun x hx => hw x (List.mem_of_mem_take hx))
    have e2 := be_getN 8 ((r.drop 8).take 8) (by rw [List.length_take]; omega) (fun x hx => hw2 x (List.mem_of_mem_take hx))
    refine ⟨getN (r.take 8) :: K, getN ((r.drop 8).take 8) :: V, by simp [k1], by simp [k2], by rw [k3]; simp, by rw [k4]; simp, ?_, ?_, ?_, ?_⟩
    · simp only [pairsL]
      rw [e1, e2, List.append_assoc, List.append_assoc, ← k5, List.take_append_drop, List.take_append_drop]
    · intro i hi hi2
      simp only [List.append_assoc, List.cons_append, List.nil_append] at k6
      rcases Nat.lt_or_ge K0.length i with hlt | hge
      · exact k6 i (by simp; omega) hi2
      · obtain rfl : i = K0.length := by omega
        have f1 : (V0 ++ getN ((r.drop 8).take 8) :: V).getD K0.length 0 = getN ((r.drop 8).take 8) := by rw [h0]; simp [List.getD_eq_getElem?_getD]
        have f2 : (K0 ++ getN (r.take 8) :: K).getD K0.length 0 = getN (r.take 8) := by simp [List.getD_eq_getElem?_getD]
        unfold okAt
        rw [f1, f2]
        rcases Nat.eq_zero_or_pos K0.length with hz | hz
        · simp [h4, hz]
        · have f3 : (K0 ++ getN (r.take 8) :: K).getD (K0.length - 1) 0 = K0.getD (K0.length - 1) 0 := by
            rw [List.getD_eq_getElem?_getD, List.getD_eq_getElem?_getD, List.getElem?_append_left (by omega)]
          rw [f3]
          have : K0.getD (K0.length - 1) 0 < getN (r.take 8) := by
            by_cases h : K0.getD (K0.length - 1) 0 < getN (r.take 8)
            · exact h
            · exact absurd ⟨hz, by omega⟩ h2
          rw [decide_eq_false h4, decide_eq_true this]
          simp
    · intro x hx
      rcases List.mem_cons.1 hx with rfl | hx
      · exact b1
      · exact k7 x hx
    · intro x hx
      rcases List.mem_cons.1 hx with rfl | hx
      · exact b2
      · exact k8 x hx
/-- What bytes say, put, is their beginning; behind it are noughts. -/
theorem take_back {b : List Int} {L : Bool} {K V : List Int} (hw : ∀ x ∈ b, (Lit.int .u8 x).wf = true) (h : takeN b = ⟨0, L, K, V⟩) :
    mayN K V = true ∧ (∀ x ∈ K, (Lit.int .u64 x).wf = true) ∧ (∀ x ∈ V, (Lit.int .u64 x).wf = true) ∧ ∃ z, b = formN L K V ++ z ∧ z.all (· == 0) = true := by
  unfold takeN at h
  have bad : ∀ er : Int, er ≠ 0 → ¬ (ntN er = (⟨0, L, K, V⟩ : TN)) := fun er he hh => he (by injection hh)
  by_cases h1 : b.length < 1
  · rw [if_pos h1] at h; exact absurd h (bad 4 (by decide))
  rw [if_neg h1] at h
  by_cases h2 : 1 < b.getD 0 0
  · rw [if_pos h2] at h; exact absurd h (bad 5 (by decide))
  rw [if_neg h2] at h
  by_cases h3 : b.length < 2
  · rw [if_pos h3] at h; exact absurd h (bad 4 (by decide))
  rw [if_neg h3] at h
  by_cases h4 : b.getD 1 0 < 1 ∨ 8 < b.getD 1 0
  · rw [if_pos h4] at h; exact absurd h (bad 5 (by decide))
  rw [if_neg h4] at h
  match b, h3 with
  | [], h3 => exact absurd (by simp) h3
  | [_], h3 => exact absurd (by simp) h3
  | x0 :: x1 :: r, _ =>
    have g0 : (x0 :: x1 :: r).getD 0 0 = x0 := rfl
    have g1 : (x0 :: x1 :: r).getD 1 0 = x1 := rfl
    have g2 : (x0 :: x1 :: r).drop 2 = r := rfl
    rw [g0] at h2 h
    rw [g1] at h4 h
    rw [g2] at h
    obtain ⟨n, rfl⟩ : ∃ n : Nat, x1 = (n : Int) := ⟨x1.toNat, by omega⟩
    rw [Int.toNat_natCast] at h
    have hx0 := le_of_wf8 (hw x0 (by simp))
    unfold endN at h
    by_cases he : (goN n r [] []).e ≠ 0
    · rw [if_pos he] at h; exact absurd h (bad _ he)
    rw [if_neg he] at h
    by_cases ha : (goN n r [] []).r.all (· == 0) = true
    · rw [if_pos ha] at h
      injection h with _ hL hK hV
      obtain ⟨K1, V1, k1, k2, k3, k4, k5, k6, k7, k8⟩ := goN_back n r [] [] (fun x hx => hw x (by simp [hx])) rfl (by simpa using he)
      rw [k3, List.nil_append] at hK
      rw [k4, List.nil_append] at hV
      subst hK; subst hV
      have hmay : mayN K1 V1 = true := by
        rw [may_len (by omega) (by omega) (by omega), List.all_eq_true]
        intro i hi
        exact k6 i (Nat.zero_le _) (by simpa using hi)
      refine ⟨hmay, fun x hx => wfu64 (k7 x hx), fun x hx => wfu64 (k8 x hx), (goN n r [] []).r, ?_, ha⟩
      rw [form_eq L K1 V1 (by omega), List.append_assoc, ← k5, k1]
      have : x0 = if L then 1 else 0 := by
        rw [← hL]
        by_cases hx1 : x0 = 1
        · rw [hx1]; rfl
        · have : x0 = 0 := by omega
          rw [this]; rfl
      rw [this]; rfl
    · rw [if_neg ha] at h; exact absurd h (bad 5 (by decide))
end Go.Proofs.YtdekplalhfpooaaDoor.Nod
