/- The document's May, lay and Put; bytes.Equal: by their contracts (every input). -/
import Derived.Test.YtnnclfaibcedoaaSupF
set_option linter.unusedVariables false
set_option linter.unusedSimpArgs false
namespace Go.Proofs.Ytnnclfaibcedoaa.Sup
open Go Go.RowKit Go.Proofs.YtnnclfaibcedoaaW.PrintWords Go.Proofs.YtnnclfaibcedoaaW.PrintLast Go.Proofs.YtnnclfaibcedoaaW.PrintMore Base Odr

theorem be_getElem (n : Int) (size i : Nat) (h : i < size) (h' : i < (be n size).length) : (be n size)[i] = n / (2 : Int) ^ (8 * (size - 1 - i)) % 256 := by simp [be]
theorem mid_set (m y : List Int) (i k : Nat) (hm : m.length = k) (hy : y.length = k) (hi : i < k) : (m.take (i + 1) ++ y.drop (i + 1)).set i (y[i]'(by omega)) = m.take i ++ y.drop i := by
  rw [List.take_succ_eq_append_getElem (by omega), List.append_assoc, List.set_append_right _ _ (by rw [List.length_take]; omega), List.length_take, show i - min i m.length = 0 by omega]
  rw [List.drop_eq_getElem_cons (show i < y.length by omega)]
  rfl
theorem pmr_set (p q r : List Int) (i : Nat) (v : Int) (hi : i < q.length) : (p ++ q ++ r).set (p.length + i) v = p ++ q.set i v ++ r := by
  rw [List.append_assoc, List.set_append_right _ _ (by omega), show p.length + i - p.length = i by omega, List.set_append_left _ _ hi, List.append_assoc]
theorem pow8 (j : Nat) : (2 : Int) ^ (8 * (j + 1)) = 256 * (2 : Int) ^ (8 * j) := by
  rw [show 8 * (j + 1) = 8 * j + 8 by omega, Int.pow_add]; omega
theorem pow8_pos (j : Nat) : 0 < (2 : Int) ^ (8 * j) := Int.pow_pos (by decide)
theorem div_step (m : Int) (j : Nat) : m / (2 : Int) ^ (8 * (j + 1)) = m / (2 : Int) ^ (8 * j) / 256 := by
  rw [pow8, Int.mul_comm, ← Int.ediv_ediv_of_nonneg (Int.le_of_lt (pow8_pos j))]
theorem div_bound (m : Int) (j : Nat) (b : Int) (h0 : 0 ≤ m) (h1 : m < b) : 0 ≤ m / (2 : Int) ^ (8 * j) ∧ m / (2 : Int) ^ (8 * j) < b := by
  have hp := pow8_pos j
  refine ⟨Int.ediv_nonneg h0 (Int.le_of_lt hp), Int.lt_of_le_of_lt (Int.ediv_le_self _ h0) h1⟩
set_option maxRecDepth 100000 in
set_option maxHeartbeats 1600000 in
theorem lay_any (p m r : List Int) (at_ N g c base : Nat) (n : Int) (w0 w : World) (hp : p.length = at_) (hm : m.length = 8) (hN : (p ++ m ++ r).length = N) (hl : N ≤ 100000) (h0 : 0 ≤ n) (h1 : n < 18446744073709551616)
    (ho : w.ownsRow base 5 1 (.slice (some ⟨g, 0, none⟩) N c) N (nums .u8 (p ++ m ++ r))) (hb : Below base w0 w) (hg : base ≤ g) :
    Calls Try.prog 24 #[.slice (some ⟨g, 0, none⟩) N c, .int .i64 (at_ : Int), .int .u64 n] w fun e w' => (∃ v, e = .returned v) ∧ w'.ownsRow base 5 1 (.slice (some ⟨g, 0, none⟩) N c) N (nums .u8 (p ++ be n 8 ++ r)) ∧ Below base w0 w' ∧ ∀ k, k ≠ g → w'.heap[k]? = w.heap[k]? := by
  have HO := Lib.hid ho
  have HB := Lib.hid hb
  have hN' : at_ + 8 ≤ N := by rw [← hN, List.length_append, List.length_append, hp, hm]; omega
  have HN := Lib.hid hN
  have HP := Lib.hid hp
  have HM := Lib.hid hm
  clear ho hb hN hp hm
  go_enter Try.func24, Try.ntmps24
  go_wp2_with fail
  go_loopw [2, 6] (fun v i wr => ∃ q : Nat, q ≤ 8 ∧ i = .int .i64 ((q : Int) - 1) ∧ v = .int .u64 (n / (2 : Int) ^ (8 * (8 - q))) ∧ wr.ownsRow base 5 1 (.slice (some ⟨g, 0, none⟩) N c) N (nums .u8 (p ++ (m.take q ++ (be n 8).drop q) ++ r)) ∧ Below base w0 wr ∧ ∀ k, k ≠ g → wr.heap[k]? = w.heap[k]?) (fun _ i _ => (intOf i + 1).toNat)
  case atStart =>
    refine ⟨8, by omega, rfl, by simp, ?_, HB.out, fun _ _ => rfl⟩
    rw [List.take_of_length_le (by rw [HM.out]; omega), List.drop_of_length_le (by rw [be_length]; omega), List.append_nil]
    exact HO.out
  case round =>
    obtain ⟨q, hq, rfl, rfl, ho, hb, hk⟩ := hrel
    have HO1 := Lib.hid ho
    have HB1 := Lib.hid hb
    have HK := Lib.hid hk
    clear ho hb hk
    by_cases hlt : 0 < q
    · obtain ⟨i, rfl⟩ : ∃ i, q = i + 1 := ⟨q - 1, by omega⟩
      have hd := div_bound n (8 - (i + 1)) 18446744073709551616 h0 h1
      have hst := div_step n (8 - (i + 1))
      rw [show 8 - (i + 1) + 1 = 8 - i by omega] at hst
      have hse : (p ++ (m.take (i + 1) ++ (be n 8).drop (i + 1)) ++ r).set (at_ + i) (n / (2 : Int) ^ (8 * (8 - (i + 1))) % 256) = p ++ (m.take i ++ (be n 8).drop i) ++ r := by
        have e1 : n / (2 : Int) ^ (8 * (8 - (i + 1))) % 256 = (be n 8)[i]'(by rw [be_length]; omega) := by rw [be_getElem n 8 i (by omega)]; congr 4; omega
        rw [e1, ← HP.out, pmr_set _ _ _ _ _ (by rw [List.length_append, List.length_take, List.length_drop, be_length, HM.out]; omega), mid_set m (be n 8) i 8 HM.out (be_length _ _) (by omega)]
      obtain ⟨y, hy⟩ : ∃ y, n / (2 : Int) ^ (8 * (8 - (i + 1))) = y := ⟨_, rfl⟩
      rw [hy] at hd hst hse ⊢
      obtain ⟨y0, y1⟩ := hd
      have HST := Lib.hid hst
      have HSE := Lib.hid hse
      have hat := own_at HO1.out ((at_ : Int) + (i : Int)) (by omega) (by omega)
      have e1 : ((at_ : Int) + (i : Int)).toNat = at_ + i := by clear hst hse hy; omega
      rw [e1] at hat
      have ea : wr.cell? ⟨g, at_ + i, none⟩ = some (.int .u8 (rd (p ++ (m.take (i + 1) ++ (be n 8).drop (i + 1)) ++ r) ((at_ : Int) + (i : Int)))) := hat.1
      have eb : wr.frozen? ⟨g, at_ + i, none⟩ = false := hat.2
      have hos := (own_store HO1.out ((at_ : Int) + (i : Int)) (y % 256)).1
      rw [e1, HSE.out] at hos
      have HOS := Lib.hid hos
      obtain ⟨z, hz⟩ : ∃ z, rd (p ++ (m.take (i + 1) ++ (be n 8).drop (i + 1)) ++ r) ((at_ : Int) + (i : Int)) = z := ⟨_, rfl⟩
      rw [hz] at ea
      clear hat hy hst hse hos hz
      go_wp2_with fail
      go_roundw
      case rel =>
        refine ⟨i, by omega, rfl, by rw [HST.out], HOS.out, HB1.out.setCell hg _, fun k hk => ?_⟩
        rw [Below.heap_setCell _ _ _ _ (by exact hk)]; exact HK.out k hk
      case measure => simp [intOf]
    · obtain rfl : q = 0 := by omega
      go_wp2_with fail
      refine bodyPost_end (v := .tuple #[]) (by simp [results, show Try.f24.results = #[] from rfl]) rfl ⟨⟨_, rfl⟩, ?_, HB1.out, HK.out⟩
      have h := HO1.out
      rw [List.take_zero, List.drop_zero, List.nil_append] at h
      exact h
set_option maxHeartbeats 3200000 in
theorem rmay_any (G B D N : Int) (w : World) (g0 : 0 ≤ G) (n0 : 0 ≤ N) : Calls Try.prog 18 #[.agg #[.int .u64 G, .int .i64 B, .int .u64 D, .int .u64 N]] w fun e w' => e = .returned (.bool (may G B D N)) ∧ Below w.heap.size w w' := by
  have b0 : Below w.heap.size w (w.alloc (.cells #[.int .u64 G, .int .i64 B, .int .u64 D, .int .u64 N] 25)) := (Below.refl _ _).alloc (Nat.le_refl _) _
  have B0 := Lib.hid b0
  clear b0
  by_cases h0 : G = 0
  · have q0 : (G == 0) = true := by simpa using h0
    have e : may G B D N = false := by rw [Bool.eq_false_iff]; intro h; simp only [may, sm, Bool.and_eq_true, decide_eq_true_eq] at h; omega
    rw [e]
    clear e h0
    go_enter Try.func18, Try.ntmps18
    go_wp2_with fail
    go_ret
    exact ⟨rfl, B0.out⟩
  · have q0 : (G == 0) = false := by simpa using h0
    by_cases h1 : 4611686018427387904 ≤ G
    · have q1 : decide (4611686018427387904 ≤ G) = true := by simpa using h1
      have e : may G B D N = false := by rw [Bool.eq_false_iff]; intro h; simp only [may, sm, Bool.and_eq_true, decide_eq_true_eq] at h; omega
      rw [e]
      clear e h0 h1
      go_enter Try.func18, Try.ntmps18
      go_wp2_with fail
      go_ret
      exact ⟨rfl, B0.out⟩
    · have q1 : decide (4611686018427387904 ≤ G) = false := by simpa using h1
      by_cases h2 : N = 0
      · have q2 : (N == 0) = true := by simpa using h2
        have e : may G B D N = false := by rw [Bool.eq_false_iff]; intro h; simp only [may, sm, Bool.and_eq_true, decide_eq_true_eq] at h; omega
        rw [e]
        clear e h0 h1 h2
        go_enter Try.func18, Try.ntmps18
        go_wp2_with fail
        go_ret
        exact ⟨rfl, B0.out⟩
      · have q2 : (N == 0) = false := by simpa using h2
        by_cases h3 : 4611686018427387904 ≤ N
        · have q3 : decide (4611686018427387904 ≤ N) = true := by simpa using h3
          have e : may G B D N = false := by rw [Bool.eq_false_iff]; intro h; simp only [may, sm, Bool.and_eq_true, decide_eq_true_eq] at h; omega
          rw [e]
          clear e h0 h1 h2 h3
          go_enter Try.func18, Try.ntmps18
          go_wp2_with fail
          go_ret
          exact ⟨rfl, B0.out⟩
        · have q3 : decide (4611686018427387904 ≤ N) = false := by simpa using h3
          by_cases h4 : 16 ≤ B
          · have q4 : decide (16 ≤ B) = true := by simpa using h4
            by_cases h5 : B ≤ 1024
            · have q5 : decide (B ≤ 1024) = true := by simpa using h5
              have hw : IntKind.u64.wrap B = B := by rw [wrap_u64]; omega
              by_cases h6 : D < B
              · have q6 : decide (D < B) = true := by simpa using h6
                have e : may G B D N = true := by simp only [may, sm, Bool.and_eq_true, decide_eq_true_eq]; omega
                rw [e]
                clear e h0 h1 h2 h3 h4 h5 h6
                go_enter Try.func18, Try.ntmps18
                go_wp2_with fail
                go_ret
                exact ⟨rfl, B0.out⟩
              · have q6 : decide (D < B) = false := by simpa using h6
                have e : may G B D N = false := by rw [Bool.eq_false_iff]; intro h; simp only [may, sm, Bool.and_eq_true, decide_eq_true_eq] at h; omega
                rw [e]
                clear e h0 h1 h2 h3 h4 h5 h6
                go_enter Try.func18, Try.ntmps18
                go_wp2_with fail
                go_ret
                exact ⟨rfl, B0.out⟩
            · have q5 : decide (B ≤ 1024) = false := by simpa using h5
              have e : may G B D N = false := by rw [Bool.eq_false_iff]; intro h; simp only [may, sm, Bool.and_eq_true, decide_eq_true_eq] at h; omega
              rw [e]
              clear e h0 h1 h2 h3 h4 h5
              go_enter Try.func18, Try.ntmps18
              go_wp2_with fail
              go_ret
              exact ⟨rfl, B0.out⟩
          · have q4 : decide (16 ≤ B) = false := by simpa using h4
            have e : may G B D N = false := by rw [Bool.eq_false_iff]; intro h; simp only [may, sm, Bool.and_eq_true, decide_eq_true_eq] at h; omega
            rw [e]
            clear e h0 h1 h2 h3 h4
            go_enter Try.func18, Try.ntmps18
            go_wp2_with fail
            go_ret
            exact ⟨rfl, B0.out⟩
theorem rmay_at {b : Bool} {G B D N : Int} (w : World) (g0 : 0 ≤ G) (n0 : 0 ≤ N) (h : may G B D N = b) : Calls Try.prog 18 #[.agg #[.int .u64 G, .int .i64 B, .int .u64 D, .int .u64 N]] w fun e w' => e = .returned (.bool b) ∧ Below w.heap.size w w' := by
  subst h; exact rmay_any G B D N w g0 n0
theorem lay_zero (at_ g c base : Nat) (n : Int) (p m r q : List Int) (w0 w : World) (hq : q = p ++ m ++ r) (hp : p.length = at_) (hm : m.length = 8) (hN : q.length = 64) (h0 : 0 ≤ n) (h1 : n < 18446744073709551616)
    (ho : w.ownsRow base 5 1 (.slice (some ⟨g, 0, none⟩) 64 c) 64 (nums .u8 q)) (hb : Below base w0 w) (hg : base ≤ g) :
    Calls Try.prog 24 #[.slice (some ⟨g, 0, none⟩) 64 c, .int .i64 (at_ : Int), .int .u64 n] w fun e w' => (∃ v, e = .returned v) ∧ w'.ownsRow base 5 1 (.slice (some ⟨g, 0, none⟩) 64 c) 64 (nums .u8 (p ++ be n 8 ++ r)) ∧ Below base w0 w' ∧ ∀ k, k ≠ g → w'.heap[k]? = w.heap[k]? := by
  subst hq; exact lay_any p m r at_ 64 g c base n w0 w hp hm hN (by omega) h0 h1 ho hb hg
set_option maxRecDepth 100000 in
set_option maxHeartbeats 1600000 in
theorem rput_no (G B D N : Int) (w : World) (g0 : 0 ≤ G) (n0 : 0 ≤ N) (hm : may G B D N = false) : Calls Try.prog 16 #[.agg #[.int .u64 G, .int .i64 B, .int .u64 D, .int .u64 N]] w fun e w' => e = .returned (.tuple #[.slice none 0 0, .int .i64 1]) ∧ Below w.heap.size w w' := by
  have HM := Lib.hid hm
  have b0 : Below w.heap.size w (w.alloc (.cells #[.int .u64 G, .int .i64 B, .int .u64 D, .int .u64 N] 25)) := (Below.refl _ _).alloc (Nat.le_refl _) _
  have B0 := Lib.hid b0
  clear b0 hm
  go_enter Try.func16, Try.ntmps16
  go_wp2_with fail
  refine (rmay_at _ g0 n0 HM.out).mono ?_
  rintro e w1 ⟨rfl, hb⟩
  have B1 := Lib.hid (below_then B0.out B0.out.size hb)
  clear hb
  go_wp2_with fail
  go_ret2
  exact ⟨rfl, B1.out⟩
end Go.Proofs.Ytnnclfaibcedoaa.Sup
