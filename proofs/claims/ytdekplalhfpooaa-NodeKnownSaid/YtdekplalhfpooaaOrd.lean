/- bytes.Clone, order.Put and order.Get, by their contracts (every input). -/
import Derived.Test.YtdekplalhfpooaaBase
import Derived.Lib.SliceRun
set_option linter.unusedVariables false
set_option linter.unusedSimpArgs false
namespace Go.Proofs.Ytdekplalhfpooaa.Odr
open Go Go.RowKit Go.Proofs.YtdekplalhfpooaaW.PrintWords Go.Proofs.YtdekplalhfpooaaW.PrintLast Go.Proofs.YtdekplalhfpooaaW.PrintMore Base

/-- A number's bytes, the highest first. -/
def be (n : Int) (size : Nat) : List Int := (List.range size).map fun i => n / (2 : Int) ^ (8 * (size - 1 - i)) % 256
theorem be_length (n : Int) (size : Nat) : (be n size).length = size := by simp [be]
theorem be_range (n : Int) (size : Nat) : ∀ x ∈ be n size, (Lit.int .u8 x).wf = true := by
  intro x hx
  simp only [be, List.mem_map] at hx
  obtain ⟨i, _, rfl⟩ := hx
  exact wf8 (by omega)
theorem be_take (n : Int) (size j : Nat) (h : j < size) : (be n size).take (j + 1) = (be n size).take j ++ [n / (2 : Int) ^ (8 * (size - 1 - j)) % 256] := by
  rw [List.take_succ_eq_append_getElem (by rw [be_length]; exact h)]
  simp [be]
/-- The number of bytes, the highest first. -/
def getN (xs : List Int) : Int := xs.foldl (fun a x => a * 256 + x) 0
theorem getN_snoc (xs : List Int) (x : Int) : getN (xs ++ [x]) = getN xs * 256 + x := by simp [getN, List.foldl_append]
theorem getN_bound : ∀ (k : Nat) (xs : List Int), xs.length = k → (∀ x ∈ xs, (Lit.int .u8 x).wf = true) → 0 ≤ getN xs ∧ getN xs < (256 : Int) ^ k := by
  intro k
  induction k with
  | zero => intro xs h _; rw [List.eq_nil_of_length_eq_zero h]; exact ⟨by decide, by decide⟩
  | succ k ih =>
    intro xs h hw
    rcases List.eq_nil_or_concat xs with h0 | ⟨ys, y, rfl⟩
    · subst h0; simp at h
    · rw [List.concat_eq_append] at h hw ⊢
      have h1 := ih ys (by simpa using h) (fun x hx => hw x (by simp [hx]))
      have h2 := le_of_wf8 (hw y (by simp))
      rw [getN_snoc, Int.pow_succ]
      omega

set_option maxHeartbeats 1600000 in
theorem clone_any (xs : List Int) (A : Option Addr) (n c : Nat) (w : World) (HR : ReadsInt w .u8 A n xs) (hn : n ≤ 140737488355328) :
    Calls Try.prog 66 #[.slice A n c] w fun e w' => ∃ v, e = .returned v ∧ w'.ownsRow w.heap.size 5 1 v n (nums .u8 xs) ∧ Below w.heap.size w w' := by
  have qT : ∀ (w : World) (a : Option Addr) (n c n' c' : Nat), (binOp .eql 41 (.slice a n c) (.slice none n' c')).run Try.prog w = .ok (.bool a.isNone) w := fun w a n c n' c' => Lib.run_eql_slice_nil w _ _ a n c n' c' Try.underlying41
  have hl := HR.1
  rcases A with _ | ad
  · have h0 : n = 0 := by
      rcases Nat.eq_zero_or_pos n with h0 | h0
      · exact h0
      · obtain ⟨ad, h, _⟩ := HR.2.2 h0; cases h
    subst h0
    obtain rfl : xs = [] := List.eq_nil_of_length_eq_zero hl
    clear HR hl
    go_enter Try.func66, Try.ntmps66
    go_wp2
    go_ret
    exact ⟨_, rfl, own_nil _ _ _ _, Below.refl _ _⟩
  · subst hl
    have HRH := Lib.hid HR
    clear HR
    go_enter Try.func66, Try.ntmps66
    go_wp2_with (at_builtin; refine print_append_row (w0 := w) w.heap.size rfl _ _ 41 5 .u8 1 rfl Try.underlying41 info8 (by omega) (.slice (some ⟨w.heap.size, 0, none⟩) 0 0) [] xs (some ad) xs.length c rfl rfl (own_lit w w.heap.size 5 .u8 [] (Nat.le_refl _) (by simp)) (ReadsInt.below HRH.out ((Below.refl _ _).alloc (Nat.le_refl _) _)) ((Below.refl _ _).alloc (Nat.le_refl _) _) (by simp) (by simp; omega) ?_)
    intro v1 w1 hown hb hg hat
    obtain ⟨A1, c1, rfl, hr1⟩ := own_reads hown
    have HO := Lib.hid hown
    have HB := Lib.hid hb
    clear hown hb hg hat hr1
    go_wp2
    go_ret
    exact ⟨_, rfl, by simpa using HO.out, HB.out⟩

theorem right_any (k : Nat) (w : World) (h1 : 1 ≤ k) (h2 : k ≤ 8) : Calls Try.prog 67 #[.int .i64 (k : Int)] w fun e w' => e = .returned (.bool true) ∧ w = w' := by
  have h3 : decide ((k : Int) ≤ 8) = true := decide_eq_true (by omega)
  go_enter Try.func67, Try.ntmps67
  go_wp2
  go_ret
  exact ⟨rfl, rfl⟩

set_option maxHeartbeats 1600000 in
theorem put_any (xs : List Int) (A : Option Addr) (n c : Nat) (m : Int) (size : Nat) (w : World) (HR : ReadsInt w .u8 A n xs) (hn : n + 8 ≤ 140737488355328) (h1 : 1 ≤ size) (h2 : size ≤ 8) :
    Calls Try.prog 53 #[.slice A n c, .int .u64 m, .int .i64 (size : Int)] w fun e w' => ∃ v, e = .returned v ∧ w'.ownsRow w.heap.size 5 1 v (n + size) (nums .u8 (xs ++ be m size)) ∧ Below w.heap.size w w' := by
  have hl := HR.1
  subst hl
  have HRH := Lib.hid HR
  clear HR
  go_enter Try.func53, Try.ntmps53
  go_wp2_with (first | (go_at_call 66; refine (clone_any xs A _ c _ HRH.out (by omega)).mono ?_; rintro e w1 ⟨v1, rfl, ho1, hb1⟩; obtain ⟨A1, c1, rfl, hr1⟩ := own_reads ho1; have HO1 := Lib.hid ho1; have HB1 := Lib.hid hb1; clear ho1 hb1 hr1) | (go_at_call 67; refine (right_any size _ h1 h2).mono ?_; rintro e w' ⟨rfl, rfl⟩))
  go_loopw [7, 8] (fun v i wr => ∃ j : Nat, j ≤ size ∧ i = .int .i64 ((size : Int) - 1 - (j : Int)) ∧ wr.ownsRow w.heap.size 5 1 v (xs.length + j) (nums .u8 (xs ++ (be m size).take j)) ∧ Below w.heap.size w wr) (fun _ i _ => (intOf i + 1).toNat)
  case atStart => exact ⟨0, by omega, by simp, by simpa using HO1.out, HB1.out⟩
  case round =>
    obtain ⟨j, hj, rfl, hown, hbel⟩ := hrel
    have HO := Lib.hid hown
    have HB := Lib.hid hbel
    clear hown hbel
    by_cases hlt : j < size
    · have ek : (8 * ((size : Int) - 1 - (j : Int))).toNat = 8 * (size - 1 - j) := by omega
      have hlj : (xs ++ (be m size).take j).length = xs.length + j := by rw [List.length_append, List.length_take, be_length]; omega
      have HO' : Hid (wr.ownsRow w.heap.size 5 1 u7 (xs ++ (be m size).take j).length (nums .u8 (xs ++ (be m size).take j))) := by rw [hlj]; exact HO
      have HL := Lib.hid hlj
      clear hlj
      go_wp2_with (at_builtin; refine print_append_num (w0 := w) w.heap.size rfl _ _ 41 5 .u8 1 rfl Try.underlying41 info8 (by omega) u7 (xs ++ (be m size).take j) (m / (2 : Int) ^ (8 * (size - 1 - j)) % 256) rfl rfl HO'.out HB.out HB.out.size (by rw [HL.out]; omega) ?_)
      intro v2 w2 hown2 hb2 hg2 hat2
      have HO2 := Lib.hid hown2
      have HB2 := Lib.hid hb2
      clear hown2 hb2 hg2 hat2
      go_wp2_with fail
      go_roundw
      case rel =>
        refine ⟨j + 1, by omega, by go_num, ?_, HB2.out⟩
        have h := HO2.out
        rw [← be_take m size j hlt, be_length, Nat.min_eq_left hj] at h
        exact h
      case measure => simp [intOf]; omega
    · obtain rfl : j = size := by omega
      obtain ⟨A2, c2, rfl, hr2⟩ := own_reads HO.out
      clear hr2
      go_wp2_with fail
      go_ret
      refine ⟨_, rfl, ?_, HB.out⟩
      have := HO.out
      rwa [List.take_of_length_le (by rw [be_length]; omega)] at this

theorem right_no (k : Int) (w : World) (h : k < 1 ∨ 8 < k) : Calls Try.prog 67 #[.int .i64 k] w fun e w' => e = .returned (.bool false) ∧ w = w' := by
  by_cases h1 : 1 ≤ k
  · have h2 : decide (k ≤ 8) = false := decide_eq_false (by omega)
    have h3 : decide (1 ≤ k) = true := decide_eq_true h1
    clear h
    go_enter Try.func67, Try.ntmps67
    go_wp2
    go_ret
    exact ⟨rfl, rfl⟩
  · have h3 : decide (1 ≤ k) = false := decide_eq_false h1
    clear h
    go_enter Try.func67, Try.ntmps67
    go_wp2
    go_ret
    exact ⟨rfl, rfl⟩

theorem or_byte (a x : Int) (h0 : 0 ≤ a) (h1 : a < 72057594037927936) (h2 : 0 ≤ x) (h3 : x < 256) : Go.bits .or .u64 (a * 256) x = a * 256 + x :=
  bits_join .u64 64 (by decide) (fun n a b => by rw [wrap_u64]; omega) 8 (a * 256) x (by omega) (by omega) (by omega) h2 (by omega) (by omega)

set_option maxHeartbeats 1600000 in
/-- A number of the first bytes, where there are as many. -/
theorem get_any (xs : List Int) (A : Option Addr) (n c : Nat) (size : Nat) (w : World) (HR : ReadsInt w .u8 A n xs) (hw : ∀ x ∈ xs, (Lit.int .u8 x).wf = true) (hc : n ≤ c) (h1 : 1 ≤ size) (h2 : size ≤ 8) (hs : size ≤ n) :
    Calls Try.prog 68 #[.slice A n c, .int .i64 (size : Int)] w fun e w' => e = .returned (.tuple #[.int .u64 (getN (xs.take size)), .int .i64 0]) ∧ w = w' := by
  have hl := HR.1
  subst hl
  have hm := HR.2.1
  have HRH := Lib.hid HR
  have HW := Lib.hid hw
  clear HR hw
  have hsc : size ≤ c := by omega
  go_enter Try.func68, Try.ntmps68
  go_wp2_with (go_at_call 67; refine (right_any size _ h1 h2).mono ?_; rintro e w' ⟨rfl, rfl⟩)
  go_loop [6, 20] (fun v i => ∃ j : Nat, j ≤ size ∧ i = .int .i64 (j : Int) ∧ v = .int .u64 (getN (xs.take j))) (fun _ i => size - (intOf i).toNat)
  case atStart => exact ⟨0, by omega, rfl, rfl⟩
  case round =>
    obtain ⟨j, hj, rfl, rfl⟩ := hrel
    by_cases hlt : j < size
    · obtain ⟨ad, rfl, hc0⟩ := HRH.out.at_ j (by omega) (by omega)
      have hcell : w.cell? (ad.add j) = some (.int .u8 (rd xs j)) := hc0
      clear hc0
      have hx : (Lit.int .u8 (xs.getD j 0)).wf = true := by
        rw [List.getD_eq_getElem?_getD, List.getElem?_eq_getElem (show j < xs.length by omega)]
        exact HW.out _ (List.getElem_mem _)
      have hx8 := le_of_wf8 hx
      have hb := getN_bound j (xs.take j) (by rw [List.length_take]; omega) (fun x hx => HW.out x (List.mem_of_mem_take hx))
      have hp : (256 : Int) ^ j ≤ 72057594037927936 := by
        have h : ∀ j, j < 8 → (256 : Int) ^ j ≤ 72057594037927936 := by decide
        exact h j (by omega)
      obtain ⟨a, ha⟩ : ∃ a, a = getN (xs.take j) := ⟨_, rfl⟩
      obtain ⟨y, hy⟩ : ∃ y, y = rd xs j := ⟨_, rfl⟩
      have hy8 : 0 ≤ y ∧ y < 256 := by rw [hy]; exact hx8
      rw [← ha] at hb ⊢
      rw [← hy] at hcell
      have HA := Lib.hid ha
      have HY := Lib.hid hy
      have ha2 : a < 72057594037927936 := by omega
      have ha1 := hb.1
      have hy1 := hy8.1
      have hy2 := hy8.2
      have hor := or_byte a y ha1 ha2 hy1 hy2
      clear ha hy hx8 hx hb hp hy8
      go_wp2_with fail
      go_round
      case rel =>
        refine ⟨j + 1, by omega, by go_num, ?_⟩
        rw [List.take_succ_eq_append_getElem (show j < xs.length by omega), getN_snoc, ← HA.out]
        have e : y = xs[j]'(by omega) := by
          rw [HY.out]
          show xs.getD j 0 = _
          rw [List.getD_eq_getElem?_getD, List.getElem?_eq_getElem (show j < xs.length by omega)]; rfl
        rw [← e]
      case measure => simp [intOf]; omega
    · obtain rfl : j = size := by omega
      go_wp2_with fail
      go_ret2
      exact ⟨rfl, rfl⟩
set_option maxHeartbeats 1600000 in
theorem get_short (A : Option Addr) (n c : Nat) (size : Nat) (w : World) (h1 : 1 ≤ size) (h2 : size ≤ 8) (hs : n < size) :
    Calls Try.prog 68 #[.slice A n c, .int .i64 (size : Int)] w fun e w' => e = .returned (.tuple #[.int .u64 0, .int .i64 4]) ∧ w = w' := by
  go_enter Try.func68, Try.ntmps68
  go_wp2_with (go_at_call 67; refine (right_any size _ h1 h2).mono ?_; rintro e w' ⟨rfl, rfl⟩)
  go_ret2
  exact ⟨rfl, rfl⟩
end Go.Proofs.Ytdekplalhfpooaa.Odr
