/- bytes.Trim of noughts, bytes.HasPrefix: by their contracts (every input). -/
import Derived.Test.YtnnclfaibcedoaaDoorHlp
set_option linter.unusedVariables false
set_option linter.unusedSimpArgs false
namespace Go.Proofs.YtnnclfaibcedoaaDoor.Trm
open Go Go.RowKit Go.Proofs.YtnnclfaibcedoaaDoorW.PrintWords Go.Proofs.YtnnclfaibcedoaaDoorW.PrintLast Go.Proofs.YtnnclfaibcedoaaDoorW.PrintMore Base Odr Hlp

def sliceLen : Value → Nat
  | .slice _ n _ => n
  | _ => 0
def zeros (l : List Int) : Bool := l.all (· == 0)
def RightOf (z : List Int) (A : Option Addr) (n c : Nat) (e : Ending) : Prop := ∃ m, m ≤ n ∧ e = .returned (.slice A m c) ∧ zeros (z.drop m) = true
def LeftOf (z : List Int) (e : Ending) : Prop := ∃ A m c, e = .returned (.slice A m c) ∧ m ≤ c ∧ (m = 0 ↔ zeros z = true)
set_option maxRecDepth 100000 in
set_option maxHeartbeats 1600000 in
theorem right0 (z : List Int) (A : Option Addr) (n c : Nat) (w : World) (HR : ReadsInt w .u8 A n z) (hc : n ≤ c) :
    Calls Tryd.prog 22 #[.slice A n c, .int .u8 0] w fun e w' => RightOf z A n c e ∧ w = w' := by
  have LZ := Lib.hid HR.1
  have HM := Lib.hid HR.2.1
  have RH := Lib.hid HR
  have HC := Lib.hid hc
  clear HR hc
  go_enter Tryd.func22, Tryd.ntmps22
  go_wp2_with fail
  go_loop [0] (fun v => ∃ m, m ≤ n ∧ v = .slice A m c ∧ zeros (z.drop m) = true) (fun v => sliceLen v)
  case atStart => exact ⟨n, Nat.le_refl _, rfl, by rw [List.drop_of_length_le (by rw [LZ.out]; exact Nat.le_refl _)]; rfl⟩
  case round =>
    obtain ⟨m, hm, rfl, hall⟩ := hrel
    have HA := Lib.hid hall
    have HMN := Lib.hid hm
    clear hall
    rcases Nat.eq_zero_or_pos m with h0 | h0
    · subst h0
      go_wp2_with fail
      go_ret
      exact ⟨⟨0, Nat.zero_le _, rfl, HA.out⟩, rfl⟩
    · obtain ⟨i, hi⟩ : ∃ i, m - 1 = i := ⟨_, rfl⟩
      have hij : (m : Int) - 1 = (i : Int) := by omega
      have hiv : (i : Int) < (m : Int) := by omega
      have hmz : decide (0 < (m : Int)) = true := decide_eq_true (by omega)
      have hmz2 : decide (0 < m) = true := decide_eq_true h0
      have hmx : (m : Int) ≤ 9223372036854775807 := by have := HM.out; omega
      have hic : (i : Int) ≤ (c : Int) := by have := HC.out; omega
      obtain ⟨ad, rfl, hc0⟩ := cell_at RH.out i (by omega)
      obtain ⟨x, hx⟩ : ∃ x, x = z.getD i 0 := ⟨_, rfl⟩
      rw [← hx] at hc0
      by_cases hx0 : x = 0
      · have hb : (x == 0) = true := by simp [hx0]
        have HN := Lib.hid (show zeros (z.drop i) = true by
          have hil : i < z.length := by rw [LZ.out]; omega
          rw [List.drop_eq_getElem_cons hil]
          unfold zeros
          rw [List.all_cons, show i + 1 = m by omega]
          have h := HA.out
          unfold zeros at h
          rw [h]
          have : z[i] = 0 := by rw [← hx0, hx, List.getD_eq_getElem?_getD, List.getElem?_eq_getElem hil]; rfl
          rw [this]; rfl)
        have HI := Lib.hid (show i < m by omega)
        clear hx hx0 hi h0
        go_wp2_with fail
        go_round
        case rel => exact ⟨i, by omega, by first | rfl | (congr 1), HN.out⟩
        case measure => exact HI.out
      · have hb : (x == 0) = false := by simp [hx0]
        clear hx hx0 hi h0
        go_wp2_with fail
        go_ret
        exact ⟨⟨m, HMN.out, rfl, HA.out⟩, rfl⟩
set_option maxRecDepth 100000 in
set_option maxHeartbeats 1600000 in
theorem left0 (z : List Int) (A : Option Addr) (n c : Nat) (w : World) (HR : ReadsInt w .u8 A n z) (hc : n ≤ c) :
    Calls Tryd.prog 21 #[.slice A n c, .int .u8 0] w fun e w' => LeftOf z e ∧ w = w' := by
  have LZ := Lib.hid HR.1
  have HM := Lib.hid HR.2.1
  have RH := Lib.hid HR
  have HC := Lib.hid hc
  clear HR hc
  go_enter Tryd.func21, Tryd.ntmps21
  go_wp2_with fail
  go_loop [0] (fun v => ∃ (A' : Option Addr) (m c' k : Nat), k + m = n ∧ m ≤ c' ∧ v = .slice A' m c' ∧ ReadsInt w .u8 A' m (z.drop k) ∧ zeros (z.take k) = true) (fun v => sliceLen v)
  case atStart => exact ⟨A, n, c, 0, by omega, HC.out, rfl, RH.out, rfl⟩
  case round =>
    obtain ⟨A', m, c', k, hk, hmc, rfl, hr, hall⟩ := hrel
    have HA := Lib.hid hall
    have HK := Lib.hid hk
    have HC2 := Lib.hid hmc
    have RR := Lib.hid hr
    clear hall hk hmc hr
    rcases Nat.eq_zero_or_pos m with h0 | h0
    · subst h0
      have HZ := Lib.hid (show zeros z = true by have h := HA.out; rwa [List.take_of_length_le (by rw [LZ.out]; have := HK.out; omega)] at h)
      go_wp2_with fail
      go_ret
      exact ⟨⟨none, 0, 0, rfl, Nat.le_refl _, ⟨fun _ => HZ.out, fun _ => rfl⟩⟩, rfl⟩
    · have hmz : decide (0 < (m : Int)) = true := decide_eq_true (by omega)
      have hmz2 : decide (0 < m) = true := decide_eq_true h0
      have hm0 : (0 : Int) < (m : Int) := by omega
      have hm1 : (1 : Int) ≤ (m : Int) := by omega
      have hme : ((m : Int) == 0) = false := by simp; omega
      obtain ⟨ad, rfl, hc0⟩ := cell_at RR.out 0 h0
      obtain ⟨x, hx⟩ : ∃ x, x = (z.drop k).getD 0 0 := ⟨_, rfl⟩
      rw [← hx] at hc0
      have hc0' : w.cell? ad = some (.int .u8 x) := hc0
      have hkl : k < z.length := by rw [LZ.out]; have := HK.out; omega
      have hxk : x = z[k] := by rw [hx, List.drop_eq_getElem_cons hkl]; rfl
      clear hc0 hx
      by_cases hx0 : x = 0
      · have hb : (x == 0) = true := by simp [hx0]
        obtain ⟨i0, hi0, hs0⟩ := info8'
        obtain ⟨A1, hA1, hr1⟩ := print_cut (P := Tryd.prog) 24 5 .i64 Tryd.underlying24 hi0 hs0 (some ad) m c' 1 h0
        have hA1' : ∀ W : World, (Instr.slice 24 (.slice (some ad) m c') (some (.int .i64 1)) none none).run Tryd.prog W = .ok (.slice A1 (m - 1) (c' - 1)) W := hA1
        have R1 := Lib.hid (show ReadsInt w .u8 A1 (m - 1) (z.drop (k + 1)) by have h := hr1 _ _ _ HC2.out RR.out; rwa [List.drop_drop] at h)
        have HN := Lib.hid (show zeros (z.take (k + 1)) = true by rw [List.take_succ_eq_append_getElem hkl]; unfold zeros; rw [List.all_append, ← hxk, hx0]; have h := HA.out; unfold zeros at h; rw [h]; rfl)
        have HI := Lib.hid (show m - 1 < m by omega)
        have HKM := Lib.hid (show k + 1 + (m - 1) = n ∧ m - 1 ≤ c' - 1 by have := HK.out; have := HC2.out; omega)
        clear hA1 hr1 hi0 hs0 i0 hxk hkl hx0 h0
        go_wp2_with fail
        go_round
        case rel => exact ⟨A1, m - 1, c' - 1, k + 1, HKM.out.1, HKM.out.2, rfl, R1.out, HN.out⟩
        case measure => exact HI.out
      · have hb : (x == 0) = false := by simp [hx0]
        have HZ := Lib.hid (show ¬ zeros z = true by
          intro h
          unfold zeros at h
          rw [List.all_eq_true] at h
          have h2 := h z[k] (List.getElem_mem _)
          rw [← hxk] at h2
          exact hx0 (by simpa using h2))
        have HP := Lib.hid h0
        clear hxk hkl hx0 h0
        go_wp2_with fail
        go_ret
        exact ⟨⟨some ad, m, c', rfl, HC2.out, ⟨fun h => absurd h (by have := HP.out; omega), fun h => absurd h HZ.out⟩⟩, rfl⟩
set_option maxRecDepth 100000 in
set_option maxHeartbeats 1600000 in
theorem trim0 (z : List Int) (A : Option Addr) (n c : Nat) (w : World) (HR : ReadsInt w .u8 A n z) (hc : n ≤ c) :
    Calls Tryd.prog 18 #[.slice A n c, .string ⟨#[0]⟩] w fun e w' => LeftOf z e ∧ Below w.heap.size w w' := by
  have LZ := Lib.hid HR.1
  have RH := Lib.hid HR
  have HC := Lib.hid hc
  clear HR hc
  by_cases h0 : n = 0
  · have d0 : ((n : Int) == 0) = true := by simp [h0]
    have HZ := Lib.hid (show zeros z = true by rw [List.eq_nil_of_length_eq_zero (LZ.out.trans h0)]; rfl)
    clear h0
    go_enter Tryd.func18, Tryd.ntmps18
    go_wp2_with fail
    go_ret
    exact ⟨⟨none, 0, 0, rfl, Nat.le_refl _, ⟨fun _ => HZ.out, fun _ => rfl⟩⟩, Below.refl _ _⟩
  · have d0 : ((n : Int) == 0) = false := by simp [h0]
    clear h0
    go_enter Tryd.func18, Tryd.ntmps18
    go_wp2_with fail
    refine start_ (n := 8) (S := fun w' => True) (ds := [6]) #[false, false, false, false, false, false, false, false] (by kernel_rfl) rfl rfl trivial (fun hHeld => ?_)
    refine pure_ (i := 0) (N := some 21) (v := ?_) (a' := ?_) #[true, false, false, false, false, false, false, false] rfl rfl (by kernel_rfl) (fun _ _ _ h => h) (Or.inl ⟨by rfl, ?_⟩) ?_ ?_
    rotate_left
    · intro w'
      go_simp
      with_reducible rfl
    rotate_left
    · simp only [Act.put, List.setIfInBounds_toArray, List.set_cons_zero, List.set_cons_succ, i64_w, i32_w]
      rfl
    refine pure_ (i := 1) (N := some 22) (v := ?_) (a' := ?_) #[true, true, false, false, false, false, false, false] rfl rfl (by kernel_rfl) (fun _ _ _ h => h) (Or.inl ⟨by rfl, ?_⟩) ?_ ?_
    rotate_left
    · intro w'
      go_simp
      with_reducible rfl
    rotate_left
    · simp only [Act.put, List.setIfInBounds_toArray, List.set_cons_zero, List.set_cons_succ, i64_w, i32_w]
      rfl
    refine pure_ (i := 4) (N := some 25) (v := ?_) (a' := ?_) #[true, true, false, false, true, false, false, false] rfl rfl (by kernel_rfl) (fun _ _ _ h => h) (Or.inl ⟨by rfl, ?_⟩) ?_ ?_
    rotate_left
    · intro w'
      go_simp
      with_reducible rfl
    rotate_left
    · simp only [Act.put, List.setIfInBounds_toArray, List.set_cons_zero, List.set_cons_succ, i64_w, i32_w]
      rfl
    refine take_ (i := 2) (N := some 23) (v := ?_) (a' := ?_) #[true, true, true, false, true, false, false, false] rfl rfl (by kernel_rfl) (fun _ _ _ h => h) (Or.inl ⟨by rfl, ?_⟩) hHeld ?_ ?_
    rotate_left
    · intro w' _
      go_simp
      with_reducible rfl
    rotate_left
    · simp only [Act.put, List.setIfInBounds_toArray, List.set_cons_zero, List.set_cons_succ, i64_w, i32_w]
      rfl
    refine take_ (i := 5) (N := some 26) (v := ?_) (a' := ?_) #[true, true, true, false, true, true, false, false] rfl rfl (by kernel_rfl) (fun _ _ _ h => h) (Or.inl ⟨by rfl, ?_⟩) hHeld ?_ ?_
    rotate_left
    · intro w' _
      go_simp
      with_reducible rfl
    rotate_left
    · simp only [Act.put, List.setIfInBounds_toArray, List.set_cons_zero, List.set_cons_succ, i64_w, i32_w]
      rfl
    refine one_ (i := 3) (N := some 24) #[true, true, true, true, true, true, false, false] rfl rfl (by kernel_rfl) (by decide) (fun K hK => ?_)
    refine goes_ Tryd.func22 (by kernel_rfl) rfl #[.slice A n c, .int .u8 0] (by rfl) rfl rfl (by simp only [List.map_toArray, List.map_cons, List.map_nil]; rfl) ?_
    with_reducible refine (right0 z A n c _ (reads_drew RH.out) HC.out).mono ?_
    rintro e w3 ⟨⟨m, hm, rfl, hz⟩, rfl⟩
    refine ⟨_, rfl, ?_⟩
    have HMN := Lib.hid hm
    have HZ := Lib.hid hz
    clear hm hz
    refine hK.out _ _ trivial (fun hHeld => ?_)
    clear hK K
    refine norm_ (a' := ?_) ?_ ?_
    rotate_left
    · show Act.put _ (some 24) _ = _
      simp only [Act.put, List.setIfInBounds_toArray, List.set_cons_zero, List.set_cons_succ, i64_w, i32_w]
      rfl
    refine last_ (i := 6) (N := some 27) #[true, true, true, true, true, true, true, false] rfl rfl (by kernel_rfl) (by decide) (fun K hK => ?_)
    refine goes_ Tryd.func21 (by kernel_rfl) rfl #[.slice A m c, .int .u8 0] (by rfl) rfl rfl (by simp only [List.map_toArray, List.map_cons, List.map_nil]; rfl) ?_
    with_reducible refine (left0 (z.take m) A m c _ ((reads_drew RH.out).take_ m HMN.out) (Nat.le_trans HMN.out HC.out)).mono ?_
    rintro e w4 ⟨⟨A', m', c', rfl, hc', hq⟩, rfl⟩
    refine ⟨_, rfl, ?_⟩
    have HQ := Lib.hid hq
    have HCC := Lib.hid hc'
    clear hq hc'
    refine hK.out _ _ ?_
    clear hK K
    refine norm_ (a' := ?_) ?_ ?_
    rotate_left
    · show Act.put _ (some 27) _ = _
      simp only [Act.put, List.setIfInBounds_toArray, List.set_cons_zero, List.set_cons_succ, i64_w, i32_w]
      rfl
    refine pure_ (i := 7) (N := some 4) (v := ?_) (a' := ?_) #[true, true, true, true, true, true, true, true] rfl rfl (by kernel_rfl) (fun _ _ _ h => h) (Or.inl ⟨by rfl, ?_⟩) ?_ ?_
    rotate_left
    · intro w'
      go_simp
      with_reducible rfl
    rotate_left
    · simp only [Act.put, List.setIfInBounds_toArray, List.set_cons_zero, List.set_cons_succ, i64_w, i32_w]
      rfl
    refine done_ (by kernel_rfl) ?_
    go_wp2_with fail
    go_ret
    refine ⟨⟨A', m', c', rfl, HCC.out, ?_⟩, below_drew (Below.refl _ _)⟩
    rw [HQ.out]
    have hz := HZ.out
    unfold zeros at hz ⊢
    conv => rhs; rw [← List.take_append_drop m z, List.all_append, hz, Bool.and_true]
end Go.Proofs.YtnnclfaibcedoaaDoor.Trm
