/- Pieces: bytes.Clone, Lift of the program, by their contracts (every input). -/
import Derived.BigQuiet
import Derived.BigRegion
import Derived.ChangeAlike
import Derived.Lib.LazyBuf
import Derived.Test.YtgmjpnampjkfeaaPieL
set_option linter.unusedVariables false
set_option linter.unusedSimpArgs false
namespace Go.Proofs.Ytgmjpnampjkfeaa.Pie
open Go Go.RowKit Go.Proofs.YtgmjpnampjkfeaaW.PrintWords Go.Proofs.YtgmjpnampjkfeaaW.PrintLast Go.Proofs.YtgmjpnampjkfeaaW.PrintMore Base

/-- What a call that makes bytes leaves. -/
def BL (w w' : World) (e : Ending) (n : Nat) (xs : List Int) : Prop :=
  ∃ A c, e = .returned (.slice A n c) ∧ w'.ownsRow w.heap.size 5 1 (.slice A n c) n (nums .u8 xs) ∧ Below w.heap.size w w'
theorem cut_two {P : Program} (t e : TypeId) {i : TypeInfo} (ht : P.underlying t = some (.slice e)) (hi : P.info? e = some i) (hsz : i.size = 1) (A : Option Addr) (n c lo hi' : Nat) (h1 : lo ≤ hi') (h2 : hi' ≤ n) (hc : n ≤ c) (hA : A = none → n = 0 ∧ c = 0) :
    ∃ A' : Option Addr, (∀ W : World, (Instr.slice t (.slice A n c) (some (.int .i64 (lo : Int))) (some (.int .i64 (hi' : Int))) none).run P W = .ok (.slice A' (hi' - lo) (c - lo)) W) ∧
      (∀ (w : World) (k : IntKind) (xs : List Int), ReadsInt w k A n xs → ReadsInt w k A' (hi' - lo) ((xs.take hi').drop lo)) ∧ (A' = none → hi' - lo = 0 ∧ c - lo = 0) := by
  refine ⟨_, cut_mid t e .i64 .i64 ht hi 1 hsz A n c lo hi' (by omega) (by omega) (by omega) hc, fun w k xs h => ?_, fun h => ?_⟩
  · have h' := (h.take_ hi' h2).drop_ (c := c) lo h1 (by omega)
    simpa using h'
  · cases A with
    | none => have := hA rfl; omega
    | some ad => split at h <;> simp at h
theorem run_nil (W : World) (A : Option Addr) (n c : Nat) : (binOp .eql 40 (.slice A n c) (.slice none 0 0)).run Try.prog W = .ok (.bool A.isNone) W := Lib.run_eql_slice_nil W 40 5 A n c 0 0 Try.underlying40
theorem own_empty {w w1 : World} (h : w1.heap[w.heap.size]? = some (.cells #[] 5)) : w1.ownsRow w.heap.size 5 1 (.slice (some ⟨w.heap.size, 0, none⟩) 0 0) ([] : List Int).length (nums .u8 []) :=
  ⟨rfl, .inr ⟨w.heap.size, 0, #[], rfl, Nat.le_refl _, h, Nat.le_refl _, by simp [maxLen], rfl, by simp [nums]⟩⟩
set_option maxRecDepth 100000 in
set_option maxHeartbeats 1600000 in
theorem clone_any (xs : List Int) (A : Option Addr) (n c : Nat) (w : World) (HR : ReadsInt w .u8 A n xs) (hn : n ≤ 140737488355328) (hA : A = none → n = 0 ∧ c = 0) :
    Calls Try.prog 28 #[.slice A n c] w fun e w' => BL w w' e n xs := by
  cases A with
  | none =>
    obtain ⟨rfl, rfl⟩ := hA rfl
    obtain rfl : xs = [] := List.eq_nil_of_length_eq_zero HR.1
    clear HR hA
    have qT : ∀ W : World, (binOp .eql 40 (.slice none 0 0) (.slice none 0 0)).run Try.prog W = .ok (.bool true) W := fun W => run_nil W none 0 0
    go_enter Try.func28, Try.ntmps28
    go_wp2_with fail
    go_ret
    exact ⟨none, 0, rfl, own_nil _ _ _ _, Below.refl _ _⟩
  | some ad =>
    obtain ⟨w1, hw1, b1, f1, s1⟩ := made w #[] 5
    have HO := Lib.hid (own_empty f1)
    have R1 := Lib.hid (HR.below b1)
    have B1 := Lib.hid b1
    have HN := Lib.hid hn
    have HX := Lib.hid HR.1
    clear HR hn hA f1 b1 s1
    have qT : ∀ W : World, (binOp .eql 40 (.slice (some ad) n c) (.slice none 0 0)).run Try.prog W = .ok (.bool false) W := fun W => run_nil W (some ad) n c
    go_enter Try.func28, Try.ntmps28
    go_wp2_with (at_builtin; refine print_append_row (w0 := w) (W := w1) w.heap.size rfl (.tmp 5) (.tmp 6) 40 5 .u8 1 rfl Try.underlying40 info8 (by omega) (.slice (some ⟨w.heap.size, 0, none⟩) 0 0) [] xs (some ad) n c rfl rfl HO.out R1.out B1.out B1.out.size (by have := HN.out; simp; omega) ?_)
    intro v2 w2 hown hB hg hat
    obtain ⟨A2, c2, rfl⟩ := own_slice hown
    have HX' := HX.out
    rw [HX'] at hown ⊢
    clear HX'
    have O2 := Lib.hid hown
    have B2 := Lib.hid hB
    clear hown hB hg hat
    go_wp2_with fail
    go_ret
    exact ⟨A2, c2, rfl, O2.out, B2.out⟩
/-- What is lifted. -/
def liftL (f t a : Int) (xs : List Int) : List Int := if mayP f t a = true then (xs.take t.toNat).drop f.toNat else []
theorem lift_form {F T n : Nat} {a : Int} {xs : List Int} (hm : mayP F T a = true) (hl : xs.length = n) : liftL F T a xs = (xs.take (min T n)).drop (min F n) := by
  unfold liftL
  rw [if_pos hm, Int.toNat_natCast, Int.toNat_natCast, ← hl]
  have e1 : xs.take (min T xs.length) = xs.take T := by
    rcases Nat.le_total T xs.length with h | h
    · rw [Nat.min_eq_left h]
    · rw [Nat.min_eq_right h, List.take_of_length_le (Nat.le_refl _), List.take_of_length_le h]
  rw [e1]
  rcases Nat.le_total F xs.length with h | h
  · rw [Nat.min_eq_left h]
  · rw [Nat.min_eq_right h, List.drop_eq_nil_of_le (by rw [List.length_take]; omega), List.drop_eq_nil_of_le (by rw [List.length_take]; omega)]
set_option maxRecDepth 100000 in
set_option maxHeartbeats 3200000 in
theorem lift_at (B f t a : Int) (xs : List Int) (A : Option Addr) (n c : Nat) (w : World) (HR : ReadsInt w .u8 A n xs) (hn : n ≤ 140737488355328) (hc : n ≤ c) (hA : A = none → n = 0 ∧ c = 0) {L : List Int} {m : Nat} (hL : liftL f t a xs = L) (hLm : L.length = m) :
    Calls Try.prog 21 #[.agg #[.int .u64 B, .int .i64 f, .int .i64 t, .int .i64 a], .slice A n c] w fun e w' => BL w w' e m L := by
  obtain ⟨w1, hw1, b1, f1, s1⟩ := made w #[.int .u64 B, .int .i64 f, .int .i64 t, .int .i64 a] 31
  have P1 := Lib.hid f1
  have B1 := Lib.hid b1
  have R1 := Lib.hid (HR.below b1)
  have HC := Lib.hid (And.intro hn (And.intro hc hA))
  have HY := Lib.hid HR.1
  have HLM := Lib.hid (And.intro hL hLm)
  clear f1 b1 s1 HR hn hc hA hL hLm
  cases hm : mayP f t a with
  | false =>
    have hl0 : liftL f t a xs = [] := if_neg (by rw [hm]; simp)
    have hL0 : L = [] := by rw [← HLM.out.1, hl0]
    have hm0 : m = 0 := by rw [← HLM.out.2, hL0]; rfl
    subst hL0; subst hm0
    clear hl0
    have HM := Lib.hid hm
    clear hm
    go_enter Try.func21, Try.ntmps21
    go_wp2_with ((with_reducible refine wpList_load_row rfl 31 (.tmp 2) rfl w.heap.size ?_ 31 _ _ _ P1.out Try.underlying31 ?_ (sizeP _ _ _ _) ?_); rfl; rfl)
    refine (may_any B f t a _).mono ?_; rintro e w2 ⟨rfl, hb⟩
    rw [HM.out]
    have B2 := Lib.hid (below_then B1.out B1.out.size hb)
    clear hb
    go_wp2_with fail
    go_ret
    exact ⟨none, 0, rfl, own_nil _ _ _ _, B2.out⟩
  | true =>
    have h := hm
    simp only [mayP, Bool.and_eq_true, decide_eq_true_eq] at h
    obtain ⟨F, rfl⟩ := Int.eq_ofNat_of_zero_le h.1.1.1
    obtain ⟨T, rfl⟩ := Int.eq_ofNat_of_zero_le (show (0 : Int) ≤ t by omega)
    have hFT : F ≤ T := by omega
    have hcase : (T ≤ n) ∨ (F ≤ n ∧ n < T) ∨ n < F := by omega
    have HMM := Lib.hid hm
    clear hm h
    rcases hcase with hq | ⟨hq, hq2⟩ | hq
    · have q1 : ¬ n < F := by omega
      have q2 : ¬ n < T := by omega
      have e1 : min F n = F := by omega
      have e2 : min T n = T := by omega
      obtain ⟨i0, hi0, hs0⟩ := info8'
      obtain ⟨A', hcut, hrd, hA'⟩ := cut_two (P := Try.prog) 40 5 Try.underlying40 hi0 hs0 A n c F T (by omega) (by omega) HC.out.2.1 HC.out.2.2
      have hL1 : (xs.take T).drop F = L := by rw [← HLM.out.1, lift_form HMM.out HY.out, e1, e2]
      have hm1 : T - F = m := by rw [← HLM.out.2, ← hL1, List.length_drop, List.length_take, HY.out]; omega
      obtain ⟨c', hc'⟩ : ∃ c', c - F = c' := ⟨_, rfl⟩
      rw [hm1, hc'] at hcut
      rw [hm1, hc'] at hA'
      have hrd := hrd _ _ _ R1.out
      rw [hL1, hm1] at hrd
      have HRD := Lib.hid hrd
      have HA' := Lib.hid hA'
      have HMS := Lib.hid (show m ≤ n by omega)
      clear hrd hA' e1 e2 hL1 hm1 hc'
      go_enter Try.func21, Try.ntmps21
      go_wp2_with ((with_reducible refine wpList_load_row rfl 31 (.tmp 2) rfl w.heap.size ?_ 31 _ _ _ P1.out Try.underlying31 ?_ (sizeP _ _ _ _) ?_); rfl; rfl)
      refine (may_any B F T a _).mono ?_; rintro e w2 ⟨rfl, hb⟩
      rw [HMM.out]
      have P2 := Lib.hid (keep_row P1.out hb)
      have R2 := Lib.hid (HRD.out.below hb)
      have B2 := Lib.hid (below_then B1.out B1.out.size hb)
      have c1 := cell_row P2.out (i := 1) (v := .int .i64 (F : Int)) rfl
      have c2 := cell_row P2.out (i := 2) (v := .int .i64 (T : Int)) rfl
      clear hb
      go_wp2_with fail
      refine (clone_any _ A' m c' _ R2.out (by have := HC.out.1; have := HMS.out; omega) HA'.out).mono ?_; rintro e w4 ⟨A4, c4, rfl, ho, hb4⟩
      have O4 := Lib.hid (own_weaken ho B2.out.size)
      have B4 := Lib.hid (below_then B2.out B2.out.size hb4)
      clear ho hb4 c1 c2
      go_wp2_with fail
      go_ret
      exact ⟨A4, c4, rfl, O4.out, B4.out⟩
    · have q1 : ¬ n < F := by omega
      have e1 : min F n = F := by omega
      have e2 : min T n = n := by omega
      obtain ⟨i0, hi0, hs0⟩ := info8'
      obtain ⟨A', hcut, hrd, hA'⟩ := cut_two (P := Try.prog) 40 5 Try.underlying40 hi0 hs0 A n c F n (by omega) (by omega) HC.out.2.1 HC.out.2.2
      have hL1 : (xs.take n).drop F = L := by rw [← HLM.out.1, lift_form HMM.out HY.out, e1, e2]
      have hm1 : n - F = m := by rw [← HLM.out.2, ← hL1, List.length_drop, List.length_take, HY.out]; omega
      obtain ⟨c', hc'⟩ : ∃ c', c - F = c' := ⟨_, rfl⟩
      rw [hm1, hc'] at hcut
      rw [hm1, hc'] at hA'
      have hrd := hrd _ _ _ R1.out
      rw [hL1, hm1] at hrd
      have HRD := Lib.hid hrd
      have HA' := Lib.hid hA'
      have HMS := Lib.hid (show m ≤ n by omega)
      clear hrd hA' e1 e2 hL1 hm1 hc'
      go_enter Try.func21, Try.ntmps21
      go_wp2_with ((with_reducible refine wpList_load_row rfl 31 (.tmp 2) rfl w.heap.size ?_ 31 _ _ _ P1.out Try.underlying31 ?_ (sizeP _ _ _ _) ?_); rfl; rfl)
      refine (may_any B F T a _).mono ?_; rintro e w2 ⟨rfl, hb⟩
      rw [HMM.out]
      have P2 := Lib.hid (keep_row P1.out hb)
      have R2 := Lib.hid (HRD.out.below hb)
      have B2 := Lib.hid (below_then B1.out B1.out.size hb)
      have c1 := cell_row P2.out (i := 1) (v := .int .i64 (F : Int)) rfl
      have c2 := cell_row P2.out (i := 2) (v := .int .i64 (T : Int)) rfl
      clear hb
      go_wp2_with fail
      refine (clone_any _ A' m c' _ R2.out (by have := HC.out.1; have := HMS.out; omega) HA'.out).mono ?_; rintro e w4 ⟨A4, c4, rfl, ho, hb4⟩
      have O4 := Lib.hid (own_weaken ho B2.out.size)
      have B4 := Lib.hid (below_then B2.out B2.out.size hb4)
      clear ho hb4 c1 c2
      go_wp2_with fail
      go_ret
      exact ⟨A4, c4, rfl, O4.out, B4.out⟩
    · have q2 : n < T := by omega
      have e1 : min F n = n := by omega
      have e2 : min T n = n := by omega
      obtain ⟨i0, hi0, hs0⟩ := info8'
      obtain ⟨A', hcut, hrd, hA'⟩ := cut_two (P := Try.prog) 40 5 Try.underlying40 hi0 hs0 A n c n n (by omega) (by omega) HC.out.2.1 HC.out.2.2
      have hL1 : (xs.take n).drop n = L := by rw [← HLM.out.1, lift_form HMM.out HY.out, e1, e2]
      have hm1 : n - n = m := by rw [← HLM.out.2, ← hL1, List.length_drop, List.length_take, HY.out]; omega
      obtain ⟨c', hc'⟩ : ∃ c', c - n = c' := ⟨_, rfl⟩
      rw [hm1, hc'] at hcut
      rw [hm1, hc'] at hA'
      have hrd := hrd _ _ _ R1.out
      rw [hL1, hm1] at hrd
      have HRD := Lib.hid hrd
      have HA' := Lib.hid hA'
      have HMS := Lib.hid (show m ≤ n by omega)
      clear hrd hA' e1 e2 hL1 hm1 hc'
      go_enter Try.func21, Try.ntmps21
      go_wp2_with ((with_reducible refine wpList_load_row rfl 31 (.tmp 2) rfl w.heap.size ?_ 31 _ _ _ P1.out Try.underlying31 ?_ (sizeP _ _ _ _) ?_); rfl; rfl)
      refine (may_any B F T a _).mono ?_; rintro e w2 ⟨rfl, hb⟩
      rw [HMM.out]
      have P2 := Lib.hid (keep_row P1.out hb)
      have R2 := Lib.hid (HRD.out.below hb)
      have B2 := Lib.hid (below_then B1.out B1.out.size hb)
      have c1 := cell_row P2.out (i := 1) (v := .int .i64 (F : Int)) rfl
      have c2 := cell_row P2.out (i := 2) (v := .int .i64 (T : Int)) rfl
      clear hb
      go_wp2_with fail
      refine (clone_any _ A' m c' _ R2.out (by have := HC.out.1; have := HMS.out; omega) HA'.out).mono ?_; rintro e w4 ⟨A4, c4, rfl, ho, hb4⟩
      have O4 := Lib.hid (own_weaken ho B2.out.size)
      have B4 := Lib.hid (below_then B2.out B2.out.size hb4)
      clear ho hb4 c1 c2
      go_wp2_with fail
      go_ret
      exact ⟨A4, c4, rfl, O4.out, B4.out⟩
end Go.Proofs.Ytgmjpnampjkfeaa.Pie
