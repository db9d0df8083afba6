/- Pieces: the document's Lift, by its contract (every input); a piece that came in, opened. -/
import Derived.BigQuiet
import Derived.Lib.SmallJoins
import Derived.Test.YtgmjpnampjkfeaaPieT
set_option linter.unusedVariables false
set_option linter.unusedSimpArgs false
namespace Go.Proofs.Ytgmjpnampjkfeaa.Pie
open Go Go.RowKit Go.ChangeShapes Go.WideShapes Go.Proofs.YtgmjpnampjkfeaaW.PrintWords Go.Proofs.YtgmjpnampjkfeaaW.PrintLast Go.Proofs.YtgmjpnampjkfeaaW.PrintMore Base

theorem open_piece {H : Type} {enc : TypeId × Value → H} {w : World} {base : Nat} {sp : Nat → Bool} {held : Bool} {r : Reach} {b0 : Nat} {v : Value} {d : DataW H} {p : List MemPlace}
    (hval : Value.okWide Try.prog w r b0 31 v) (hd : DataW.Trod enc Try.prog w base sp held 31 v d p) :
    ∃ B F T A : Int, v = .agg #[.int .u64 B, .int .i64 F, .int .i64 T, .int .i64 A] ∧ (Lit.int .u64 B).wf = true ∧ (Lit.int .i64 F).wf = true ∧ (Lit.int .i64 T).wf = true ∧ (Lit.int .i64 A).wf = true := by
  obtain ⟨v0, v1, v2, v3, y0, y1, y2, y3, n, rfl, -, -, h0, h1, h2, h3⟩ := Joins.open_agg4 Try.underlying31 (by kernel_rfl) (by kernel_rfl) hval hd
  obtain ⟨G, e0, _, w0⟩ := DataW.trod_int Try.underlying22 h0
  obtain ⟨B, e1, _, w1⟩ := DataW.trod_int Try.underlying3 h1
  obtain ⟨D, e2, _, w2⟩ := DataW.trod_int Try.underlying3 h2
  obtain ⟨N, e3, _, w3⟩ := DataW.trod_int Try.underlying3 h3
  simp only [List.cons.injEq, and_true] at e0 e1 e2 e3
  subst e0; subst e1; subst e2; subst e3
  exact ⟨G, B, D, N, rfl, w0, w1, w2, w3⟩
def LLi (F T : Nat) (xs : List Int) (i : Nat) : List Int := ((xs.take i).take T).drop F
theorem take_snoc {xs : List Int} {i : Nat} (h : i < xs.length) : xs.take (i + 1) = xs.take i ++ [xs.getD i 0] := by
  rw [List.take_add_one, List.getD_eq_getElem?_getD, List.getElem?_eq_getElem h]; rfl
theorem ll_in {F T : Nat} {xs : List Int} {i : Nat} (h : i < xs.length) (h1 : F ≤ i) (h2 : i < T) : LLi F T xs (i + 1) = LLi F T xs i ++ [xs.getD i 0] := by
  unfold LLi
  have hl : (xs.take i).length = i := by rw [List.length_take]; omega
  have hl1 : (xs.take (i + 1)).length = i + 1 := by rw [List.length_take]; omega
  rw [List.take_of_length_le (l := xs.take (i + 1)) (by omega), List.take_of_length_le (l := xs.take i) (by omega), take_snoc h, List.drop_append_of_le_length (by omega)]
theorem ll_out {F T : Nat} {xs : List Int} {i : Nat} (h : i < xs.length) (h1 : i < F ∨ T ≤ i) : LLi F T xs (i + 1) = LLi F T xs i := by
  unfold LLi
  have hl : (xs.take i).length = i := by rw [List.length_take]; omega
  have hl1 : (xs.take (i + 1)).length = i + 1 := by rw [List.length_take]; omega
  rcases h1 with h1 | h1
  · rw [List.drop_eq_nil_of_le (by rw [List.length_take]; omega), List.drop_eq_nil_of_le (by rw [List.length_take]; omega)]
  · rw [List.take_take, List.take_take, Nat.min_eq_left (by omega), Nat.min_eq_left (by omega)]
theorem ll_len (F T : Nat) (xs : List Int) (i : Nat) : (LLi F T xs i).length ≤ xs.length := by unfold LLi; rw [List.length_drop, List.length_take, List.length_take]; omega
set_option maxRecDepth 100000 in
set_option maxHeartbeats 3200000 in
theorem rlift_at (B f t a : Int) (xs : List Int) (A : Option Addr) (n c : Nat) (w : World) (HR : ReadsInt w .u8 A n xs) (hn : n ≤ 140737488355327) {L : List Int} {m : Nat} (hL : liftL f t a xs = L) (hLm : L.length = m) :
    Calls Try.prog 23 #[.agg #[.int .u64 B, .int .i64 f, .int .i64 t, .int .i64 a], .slice A n c] w fun e w' => BL w w' e m L := by
  obtain ⟨w1, hw1, b1, f1, s1⟩ := made w #[.int .u64 B, .int .i64 f, .int .i64 t, .int .i64 a] 31
  have P1 := Lib.hid f1
  have B1 := Lib.hid b1
  have R1 := Lib.hid (HR.below b1)
  have HY := Lib.hid HR.1
  have HLM := Lib.hid (And.intro hL hLm)
  have HN := Lib.hid hn
  clear f1 b1 s1 HR hn hL hLm
  cases hm : mayP f t a with
  | false =>
    have hl0 : liftL f t a xs = [] := if_neg (by rw [hm]; simp)
    have hL0 : L = [] := by rw [← HLM.out.1, hl0]
    have hm0 : m = 0 := by rw [← HLM.out.2, hL0]; rfl
    subst hL0; subst hm0
    have HM := Lib.hid hm
    clear hl0 hm
    go_enter Try.func23, Try.ntmps23
    go_wp2_with fail
    go_loopw [5, 6] (fun ov iv wr => ov = .slice none 0 0 ∧ iv = .int .i64 0 ∧ Below w1.heap.size w1 wr) (fun _ _ _ => 0)
    case atStart => exact ⟨rfl, rfl, Below.refl _ _⟩
    case round =>
      obtain ⟨rfl, rfl, hb⟩ := hrel
      have P2 := Lib.hid (keep_row P1.out hb)
      have B2 := Lib.hid (below_then B1.out B1.out.size hb)
      clear hb
      go_wp2_with ((with_reducible refine wpList_load_row rfl 31 (.tmp 2) rfl w.heap.size ?_ 31 _ _ _ P2.out Try.underlying31 ?_ (sizeP _ _ _ _) ?_); rfl; rfl)
      refine (rmay_any B f t a _).mono ?_; rintro e w3 ⟨rfl, hb⟩
      rw [HM.out]
      have B3 := Lib.hid (below_then B2.out B2.out.size hb)
      clear hb
      go_wp2_with fail
      go_ret
      exact ⟨none, 0, rfl, own_nil _ _ _ _, B3.out⟩
  | true =>
    have h := hm
    simp only [mayP, Bool.and_eq_true, decide_eq_true_eq] at h
    obtain ⟨F, rfl⟩ := Int.eq_ofNat_of_zero_le h.1.1.1
    obtain ⟨T, rfl⟩ := Int.eq_ofNat_of_zero_le (show (0 : Int) ≤ t by omega)
    have HM := Lib.hid hm
    have HEND := Lib.hid (show LLi F T xs n = L by rw [← HLM.out.1]; unfold LLi liftL; rw [if_pos hm, Int.toNat_natCast, Int.toNat_natCast, List.take_of_length_le (l := xs) (by rw [HY.out]; exact Nat.le_refl _)])
    clear hm h
    go_enter Try.func23, Try.ntmps23
    go_wp2_with fail
    go_loopw [5, 6] (fun ov iv wr => ∃ (i k cap : Nat) (A5 : Option Addr), i ≤ n ∧ ov = .slice A5 k cap ∧ iv = .int .i64 (i : Int) ∧ k = (LLi F T xs i).length ∧ wr.ownsRow w1.heap.size 5 1 (.slice A5 k cap) k (nums .u8 (LLi F T xs i)) ∧ Below w1.heap.size w1 wr) (fun _ iv _ => n - (intOf iv).toNat)
    case atStart => exact ⟨0, 0, 0, none, by omega, rfl, rfl, by unfold LLi; simp, by unfold LLi; simp only [List.take_zero, List.take_nil, List.drop_nil]; exact own_nil _ _ _ _, Below.refl _ _⟩
    case round =>
      obtain ⟨i, k, cap, A5, hi, rfl, rfl, hk, ho, hb⟩ := hrel
      have HO := Lib.hid ho
      have HR := Lib.hid hb
      have HK := Lib.hid hk
      have P2 := Lib.hid (keep_row P1.out hb)
      have R2 := Lib.hid (R1.out.below hb)
      clear ho hb hk
      have hn47 : n ≤ 140737488355327 := HN.out
      by_cases hlt : i < n
      · obtain ⟨ad, rfl, hc⟩ := R2.out.2.2 (by omega)
        have hcell := hc i hlt
        obtain ⟨x, hx⟩ : ∃ x, xs.getD i 0 = x := ⟨_, rfl⟩
        rw [hx] at hcell
        have HX := Lib.hid hx
        have HCELL := Lib.hid hcell
        have HLT := Lib.hid hlt
        clear hc hx hcell hi
        go_wp2_with ((with_reducible refine wpList_load_row rfl 31 (.tmp 2) rfl w.heap.size ?_ 31 _ _ _ P2.out Try.underlying31 ?_ (sizeP _ _ _ _) ?_); rfl; rfl)
        refine (rmay_any B F T a _).mono ?_; rintro e w3 ⟨rfl, hb⟩
        rw [HM.out]
        have P3 := keep_row P2.out hb
        have c1 := cell_row P3 (i := 1) (v := .int .i64 (F : Int)) rfl
        have c2 := cell_row P3 (i := 2) (v := .int .i64 (T : Int)) rfl
        have B3 := Lib.hid (below_then HR.out HR.out.size hb)
        have O3 := Lib.hid (pw_own_below HO.out hb)
        have hcell := pw_cell_below hb HCELL.out
        clear hb P3
        by_cases hF : F ≤ i
        · by_cases hT : i < T
          · have d1 : decide ((F : Int) ≤ (i : Int)) = true := decide_eq_true (by omega)
            have d2 : decide ((i : Int) < (T : Int)) = true := decide_eq_true (by omega)
            have HNX := Lib.hid (ll_in (xs := xs) (by rw [HY.out]; exact hlt) hF hT)
            go_wp2_with (at_builtin; refine print_append_num (w0 := w1) (W := w3) w1.heap.size rfl (.tmp 27) (.tmp 32) 40 5 .u8 1 rfl Try.underlying40 info8 (by omega) (.slice A5 k cap) (LLi F T xs i) x rfl rfl (by rw [← HK.out]; exact O3.out) B3.out B3.out.size (by have h1 := ll_len F T xs i; have h2 := HY.out; have h3 := HN.out; have h4 := HLT.out; omega) ?_)
            intro v4 w4 hown hB hg hat
            obtain ⟨A6, c6, rfl⟩ := own_slice hown
            rw [← HX.out, ← HNX.out] at hown
            rw [← HK.out] at hown ⊢
            have HK1 := Lib.hid (show k + 1 = (LLi F T xs (i + 1)).length by rw [HNX.out, List.length_append, HK.out]; rfl)
            have O4 := Lib.hid hown
            have B4 := Lib.hid hB
            clear hown hB hg hat
            go_wp2_with fail
            go_roundw
            case rel => exact ⟨i + 1, k + 1, c6, A6, HLT.out, rfl, by push_cast; rfl, HK1.out, O4.out, B4.out⟩
            case measure => simp [intOf]; have := HLT.out; omega
          · have d1 : decide ((F : Int) ≤ (i : Int)) = true := decide_eq_true (by omega)
            have d2 : decide ((i : Int) < (T : Int)) = false := decide_eq_false (by omega)
            have d3 : decide (i < T) = false := decide_eq_false hT
            have d4 : decide (F ≤ i) = true := decide_eq_true hF
            have HNX := Lib.hid (ll_out (F := F) (T := T) (xs := xs) (by rw [HY.out]; exact hlt) (.inr (by omega)))
            clear hF hT
            go_wp2_with fail
            go_roundw
            case rel => exact ⟨i + 1, k, cap, A5, HLT.out, rfl, by push_cast; rfl, by rw [HNX.out]; exact HK.out, by rw [HNX.out]; exact O3.out, B3.out⟩
            case measure => simp [intOf]; have := HLT.out; omega
        · have d1 : decide ((F : Int) ≤ (i : Int)) = false := decide_eq_false (by omega)
          have d3 : decide (F ≤ i) = false := decide_eq_false hF
          have HNX := Lib.hid (ll_out (F := F) (T := T) (xs := xs) (by rw [HY.out]; exact hlt) (.inl (by omega)))
          clear hF
          go_wp2_with fail
          go_roundw
          case rel => exact ⟨i + 1, k, cap, A5, HLT.out, rfl, by push_cast; rfl, by rw [HNX.out]; exact HK.out, by rw [HNX.out]; exact O3.out, B3.out⟩
          case measure => simp [intOf]; have := HLT.out; omega
      · obtain rfl : i = n := by omega
        go_wp2_with ((with_reducible refine wpList_load_row rfl 31 (.tmp 2) rfl w.heap.size ?_ 31 _ _ _ P2.out Try.underlying31 ?_ (sizeP _ _ _ _) ?_); rfl; rfl)
        refine (rmay_any B F T a _).mono ?_; rintro e w3 ⟨rfl, hb⟩
        rw [HM.out]
        have B3 := Lib.hid (below_then (below_then B1.out B1.out.size HR.out) (Nat.le_trans B1.out.size HR.out.size) hb)
        have O3 := Lib.hid (own_weaken (pw_own_below HO.out hb) B1.out.size)
        clear hb hi hlt
        go_wp2_with fail
        go_ret
        have hkm : k = m := by rw [HK.out, HEND.out, HLM.out.2]
        have ho := O3.out
        rw [HEND.out] at ho
        subst hkm
        exact ⟨A5, cap, rfl, ho, B3.out⟩
end Go.Proofs.Ytgmjpnampjkfeaa.Pie
