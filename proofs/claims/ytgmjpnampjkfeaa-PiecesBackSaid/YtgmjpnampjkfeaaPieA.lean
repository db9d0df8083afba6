/- Pieces: Within, Inner, may of the program and of the document, by their contracts (every input). -/
import Derived.Test.YtgmjpnampjkfeaaBase
set_option linter.unusedVariables false
set_option linter.unusedSimpArgs false
namespace Go.Proofs.Ytgmjpnampjkfeaa.Pie
open Go Go.RowKit Go.Proofs.YtgmjpnampjkfeaaW.PrintWords Go.Proofs.YtgmjpnampjkfeaaW.PrintLast Go.Proofs.YtgmjpnampjkfeaaW.PrintMore Base

def within (off n size : Int) : Bool := decide (off ≤ size) && decide (n ≤ size - off)
theorem within_any (off n size : Int) (w : World) (h0 : 0 ≤ off ∧ off < 18446744073709551616) (h1 : 0 ≤ n ∧ n < 18446744073709551616) (h2 : 0 ≤ size ∧ size < 18446744073709551616) :
    Calls Try.prog 16 #[.int .u64 off, .int .u64 n, .int .u64 size] w fun e w' => e = .returned (.bool (within off n size)) ∧ w = w' := by
  obtain ⟨a0, a1⟩ := h0
  obtain ⟨n0, n1⟩ := h1
  obtain ⟨s0, s1⟩ := h2
  by_cases h : off ≤ size
  · have d : decide (off ≤ size) = true := decide_eq_true h
    go_enter Try.func16, Try.ntmps16
    go_wp2_with fail
    go_ret
    exact ⟨ret_eq (by simp [within, h]), rfl⟩
  · have d : decide (off ≤ size) = false := decide_eq_false h
    go_enter Try.func16, Try.ntmps16
    go_wp2_with fail
    go_ret
    exact ⟨ret_eq (by simp [within]; omega), rfl⟩
theorem rwithin_any (off n size : Int) (w : World) (h0 : 0 ≤ off ∧ off < 18446744073709551616) (h1 : 0 ≤ n ∧ n < 18446744073709551616) (h2 : 0 ≤ size ∧ size < 18446744073709551616) :
    Calls Try.prog 17 #[.int .u64 off, .int .u64 n, .int .u64 size] w fun e w' => e = .returned (.bool (within off n size)) ∧ w = w' := by
  obtain ⟨a0, a1⟩ := h0
  obtain ⟨n0, n1⟩ := h1
  obtain ⟨s0, s1⟩ := h2
  by_cases h : off ≤ size
  · have d : decide (size < off) = false := decide_eq_false (by omega)
    go_enter Try.func17, Try.ntmps17
    go_wp2_with fail
    go_ret
    exact ⟨ret_eq (by simp [within, h]), rfl⟩
  · have d : decide (size < off) = true := decide_eq_true (by omega)
    go_enter Try.func17, Try.ntmps17
    go_wp2_with fail
    go_ret
    exact ⟨ret_eq (by simp [within]; omega), rfl⟩
theorem within_at {b : Bool} {off n size : Int} (w : World) (h0 : 0 ≤ off ∧ off < 18446744073709551616) (h1 : 0 ≤ n ∧ n < 18446744073709551616) (h2 : 0 ≤ size ∧ size < 18446744073709551616) (h : within off n size = b) :
    Calls Try.prog 16 #[.int .u64 off, .int .u64 n, .int .u64 size] w fun e w' => e = .returned (.bool b) ∧ w = w' := by subst h; exact within_any off n size w h0 h1 h2
theorem rwithin_at {b : Bool} {off n size : Int} (w : World) (h0 : 0 ≤ off ∧ off < 18446744073709551616) (h1 : 0 ≤ n ∧ n < 18446744073709551616) (h2 : 0 ≤ size ∧ size < 18446744073709551616) (h : within off n size = b) :
    Calls Try.prog 17 #[.int .u64 off, .int .u64 n, .int .u64 size] w fun e w' => e = .returned (.bool b) ∧ w = w' := by subst h; exact rwithin_any off n size w h0 h1 h2
theorem within_all {off n : Int} (h : within off n 4294967296 = true) : off ≤ 4294967296 ∧ off + n ≤ 4294967296 := by
  simp only [within, Bool.and_eq_true, decide_eq_true_eq] at h; omega
/-- Which blocks lie within a range: from, to. -/
def innerF (off n : Int) : Int := if within off n 4294967296 = true ∧ (off + 256 - 1) / 256 < (off + n) / 256 then (off + 256 - 1) / 256 else 0
def innerT (off n : Int) : Int := if within off n 4294967296 = true ∧ (off + 256 - 1) / 256 < (off + n) / 256 then (off + n) / 256 else 0
set_option maxRecDepth 100000 in
theorem inner_any (off n : Int) (w : World) (h0 : 0 ≤ off ∧ off < 18446744073709551616) (h1 : 0 ≤ n ∧ n < 18446744073709551616) :
    Calls Try.prog 11 #[.int .u64 off, .int .u64 n] w fun e w' => e = .returned (.tuple #[.int .u64 (innerF off n), .int .u64 (innerT off n)]) ∧ w = w' := by
  by_cases h : within off n 4294967296 = true
  · have hr := within_all h
    have HW := Lib.hid h
    have H0 := Lib.hid h0
    have H1 := Lib.hid h1
    obtain ⟨a0, a1⟩ := h0
    obtain ⟨n0, n1⟩ := h1
    obtain ⟨r0, r1⟩ := hr
    by_cases hc : (off + 256 - 1) / 256 < (off + n) / 256
    · have d : decide ((off + n) / 256 ≤ (off + 256 - 1) / 256) = false := decide_eq_false (by omega)
      have HF := Lib.hid (show innerF off n = (off + 256 - 1) / 256 ∧ innerT off n = (off + n) / 256 from ⟨if_pos ⟨h, hc⟩, if_pos ⟨h, hc⟩⟩)
      clear h hc
      go_enter Try.func11, Try.ntmps11
      go_wp2_with fail
      refine (within_at _ H0.out H1.out (by omega) HW.out).mono ?_; rintro e w' ⟨rfl, rfl⟩
      go_wp2_with fail
      go_ret2
      exact ⟨ret_eq (by rw [HF.out.1, HF.out.2]; rfl), rfl⟩
    · have d : decide ((off + n) / 256 ≤ (off + 256 - 1) / 256) = true := decide_eq_true (by omega)
      have HF := Lib.hid (show innerF off n = 0 ∧ innerT off n = 0 from ⟨if_neg (fun h => hc h.2), if_neg (fun h => hc h.2)⟩)
      clear h hc
      go_enter Try.func11, Try.ntmps11
      go_wp2_with fail
      refine (within_at _ H0.out H1.out (by omega) HW.out).mono ?_; rintro e w' ⟨rfl, rfl⟩
      go_wp2_with fail
      go_ret2
      exact ⟨ret_eq (by rw [HF.out.1, HF.out.2]; rfl), rfl⟩
  · have HW := Lib.hid (show within off n 4294967296 = false by simpa using h)
    have HF := Lib.hid (show innerF off n = 0 ∧ innerT off n = 0 from ⟨if_neg (fun hh => h hh.1), if_neg (fun hh => h hh.1)⟩)
    clear h
    go_enter Try.func11, Try.ntmps11
    go_wp2_with fail
    refine (within_at _ h0 h1 (by omega) HW.out).mono ?_; rintro e w' ⟨rfl, rfl⟩
    go_wp2_with fail
    go_ret2
    exact ⟨ret_eq (by rw [HF.out.1, HF.out.2]; rfl), rfl⟩
set_option maxRecDepth 100000 in
theorem rinner_any (off n : Int) (w : World) (h0 : 0 ≤ off ∧ off < 18446744073709551616) (h1 : 0 ≤ n ∧ n < 18446744073709551616) :
    Calls Try.prog 12 #[.int .u64 off, .int .u64 n] w fun e w' => e = .returned (.tuple #[.int .u64 (innerF off n), .int .u64 (innerT off n)]) ∧ w = w' := by
  by_cases h : within off n 4294967296 = true
  · have hr := within_all h
    have HW := Lib.hid h
    have H0 := Lib.hid h0
    have H1 := Lib.hid h1
    obtain ⟨a0, a1⟩ := h0
    obtain ⟨n0, n1⟩ := h1
    obtain ⟨r0, r1⟩ := hr
    by_cases hm : 0 < off % 256
    · have dm : decide (0 < off % 256) = true := decide_eq_true hm
      by_cases hc : (off + 256 - 1) / 256 < (off + n) / 256
      · have d : decide ((off + n) / 256 ≤ off / 256 + 1) = false := decide_eq_false (by omega)
        have HF := Lib.hid (show innerF off n = off / 256 + 1 ∧ innerT off n = (off + n) / 256 from ⟨(if_pos ⟨h, hc⟩).trans (by omega), if_pos ⟨h, hc⟩⟩)
        clear h hc hm
        go_enter Try.func12, Try.ntmps12
        go_wp2_with fail
        refine (rwithin_at _ H0.out H1.out (by omega) HW.out).mono ?_; rintro e w' ⟨rfl, rfl⟩
        go_wp2_with fail
        go_ret2
        exact ⟨ret_eq (by rw [HF.out.1, HF.out.2]; rfl), rfl⟩
      · have d : decide ((off + n) / 256 ≤ off / 256 + 1) = true := decide_eq_true (by omega)
        have HF := Lib.hid (show innerF off n = 0 ∧ innerT off n = 0 from ⟨if_neg (fun h => hc h.2), if_neg (fun h => hc h.2)⟩)
        clear h hc hm
        go_enter Try.func12, Try.ntmps12
        go_wp2_with fail
        refine (rwithin_at _ H0.out H1.out (by omega) HW.out).mono ?_; rintro e w' ⟨rfl, rfl⟩
        go_wp2_with fail
        go_ret2
        exact ⟨ret_eq (by rw [HF.out.1, HF.out.2]; rfl), rfl⟩
    · have dm : decide (0 < off % 256) = false := decide_eq_false hm
      by_cases hc : (off + 256 - 1) / 256 < (off + n) / 256
      · have d : decide ((off + n) / 256 ≤ off / 256) = false := decide_eq_false (by omega)
        have HF := Lib.hid (show innerF off n = off / 256 ∧ innerT off n = (off + n) / 256 from ⟨(if_pos ⟨h, hc⟩).trans (by omega), if_pos ⟨h, hc⟩⟩)
        clear h hc hm
        go_enter Try.func12, Try.ntmps12
        go_wp2_with fail
        refine (rwithin_at _ H0.out H1.out (by omega) HW.out).mono ?_; rintro e w' ⟨rfl, rfl⟩
        go_wp2_with fail
        go_ret2
        exact ⟨ret_eq (by rw [HF.out.1, HF.out.2]; rfl), rfl⟩
      · have d : decide ((off + n) / 256 ≤ off / 256) = true := decide_eq_true (by omega)
        have HF := Lib.hid (show innerF off n = 0 ∧ innerT off n = 0 from ⟨if_neg (fun h => hc h.2), if_neg (fun h => hc h.2)⟩)
        clear h hc hm
        go_enter Try.func12, Try.ntmps12
        go_wp2_with fail
        refine (rwithin_at _ H0.out H1.out (by omega) HW.out).mono ?_; rintro e w' ⟨rfl, rfl⟩
        go_wp2_with fail
        go_ret2
        exact ⟨ret_eq (by rw [HF.out.1, HF.out.2]; rfl), rfl⟩
  · have HW := Lib.hid (show within off n 4294967296 = false by simpa using h)
    have HF := Lib.hid (show innerF off n = 0 ∧ innerT off n = 0 from ⟨if_neg (fun hh => h hh.1), if_neg (fun hh => h hh.1)⟩)
    clear h
    go_enter Try.func12, Try.ntmps12
    go_wp2_with fail
    refine (rwithin_at _ h0 h1 (by omega) HW.out).mono ?_; rintro e w' ⟨rfl, rfl⟩
    go_wp2_with fail
    go_ret2
    exact ⟨ret_eq (by rw [HF.out.1, HF.out.2]; rfl), rfl⟩
def mayP (f t a : Int) : Bool := decide (0 ≤ f) && decide (f ≤ t) && decide (t ≤ 256) && decide (0 ≤ a)
set_option maxRecDepth 100000 in
theorem may_any (B f t a : Int) (w : World) : Calls Try.prog 27 #[.agg #[.int .u64 B, .int .i64 f, .int .i64 t, .int .i64 a]] w fun e w' => e = .returned (.bool (mayP f t a)) ∧ Below w.heap.size w w' := by
  have b1 := (Below.refl w.heap.size w).alloc (Nat.le_refl _) (.cells #[.int .u64 B, .int .i64 f, .int .i64 t, .int .i64 a] 31)
  have B1 := Lib.hid b1
  clear b1
  by_cases h1 : 0 ≤ f
  · have d1 : decide (0 ≤ f) = true := decide_eq_true h1
    by_cases h2 : f ≤ t
    · have d2 : decide (f ≤ t) = true := decide_eq_true h2
      by_cases h3 : t ≤ 256
      · have d3 : decide (t ≤ 256) = true := decide_eq_true h3
        have HR := Lib.hid (show mayP f t a = decide (0 ≤ a) by simp [mayP, h1, h2, h3])
        clear h1 h2 h3
        go_enter Try.func27, Try.ntmps27
        go_wp2_with fail
        go_ret
        exact ⟨ret_eq (by rw [HR.out]; rfl), B1.out⟩
      · have d3 : decide (t ≤ 256) = false := decide_eq_false h3
        have HR := Lib.hid (show mayP f t a = false by simp [mayP, h3])
        clear h1 h2 h3
        go_enter Try.func27, Try.ntmps27
        go_wp2_with fail
        go_ret
        exact ⟨ret_eq (by rw [HR.out]; rfl), B1.out⟩
    · have d2 : decide (f ≤ t) = false := decide_eq_false h2
      have HR := Lib.hid (show mayP f t a = false by simp [mayP, h2])
      clear h1 h2
      go_enter Try.func27, Try.ntmps27
      go_wp2_with fail
      go_ret
      exact ⟨ret_eq (by rw [HR.out]; rfl), B1.out⟩
  · have d1 : decide (0 ≤ f) = false := decide_eq_false h1
    have HR := Lib.hid (show mayP f t a = false by simp [mayP, h1])
    clear h1
    go_enter Try.func27, Try.ntmps27
    go_wp2_with fail
    go_ret
    exact ⟨ret_eq (by rw [HR.out]; rfl), B1.out⟩
set_option maxRecDepth 100000 in
theorem rmay_any (B f t a : Int) (w : World) : Calls Try.prog 29 #[.agg #[.int .u64 B, .int .i64 f, .int .i64 t, .int .i64 a]] w fun e w' => e = .returned (.bool (mayP f t a)) ∧ Below w.heap.size w w' := by
  have b1 := (Below.refl w.heap.size w).alloc (Nat.le_refl _) (.cells #[.int .u64 B, .int .i64 f, .int .i64 t, .int .i64 a] 31)
  have B1 := Lib.hid b1
  clear b1
  by_cases h1 : 0 ≤ f
  · have d1 : decide (0 ≤ f) = true := decide_eq_true h1
    by_cases h2 : f ≤ t
    · have d2 : decide (f ≤ t) = true := decide_eq_true h2
      by_cases h3 : t ≤ 256
      · have d3 : decide (t ≤ 256) = true := decide_eq_true h3
        have HR := Lib.hid (show mayP f t a = decide (0 ≤ a) by simp [mayP, h1, h2, h3])
        clear h1 h2 h3
        go_enter Try.func29, Try.ntmps29
        go_wp2_with fail
        go_ret
        exact ⟨ret_eq (by rw [HR.out]; rfl), B1.out⟩
      · have d3 : decide (t ≤ 256) = false := decide_eq_false h3
        have HR := Lib.hid (show mayP f t a = false by simp [mayP, h3])
        clear h1 h2 h3
        go_enter Try.func29, Try.ntmps29
        go_wp2_with fail
        go_ret
        exact ⟨ret_eq (by rw [HR.out]; rfl), B1.out⟩
    · have d2 : decide (f ≤ t) = false := decide_eq_false h2
      have HR := Lib.hid (show mayP f t a = false by simp [mayP, h2])
      clear h1 h2
      go_enter Try.func29, Try.ntmps29
      go_wp2_with fail
      go_ret
      exact ⟨ret_eq (by rw [HR.out]; rfl), B1.out⟩
  · have d1 : decide (0 ≤ f) = false := decide_eq_false h1
    have HR := Lib.hid (show mayP f t a = false by simp [mayP, h1])
    clear h1
    go_enter Try.func29, Try.ntmps29
    go_wp2_with fail
    go_ret
    exact ⟨ret_eq (by rw [HR.out]; rfl), B1.out⟩

end Go.Proofs.Ytgmjpnampjkfeaa.Pie
