/- Counts: how many pages, the program's and the document's; a page that is padded, by their contracts (every input). -/
import Derived.BigQuiet
import Derived.Lib.AppendZerosOnto
import Derived.Test.YtnnclfaibcedoaaDoorTrm
set_option linter.unusedVariables false
set_option linter.unusedSimpArgs false
namespace Go.Proofs.YtnnclfaibcedoaaDoor.Cnt
open Go Go.RowKit Go.Proofs.YtnnclfaibcedoaaDoorW.PrintWords Go.Proofs.YtnnclfaibcedoaaDoorW.PrintLast Go.Proofs.YtnnclfaibcedoaaDoorW.PrintMore Base Odr Hlp Trm

def pagesN (n : Int) : Int := if n ≤ 0 then 0 else (n - 1) / 240 + 1
theorem pages_any {n r : Int} (w : World) (h1 : -9223372036854775808 ≤ n) (h2 : n ≤ 9223372036854775807) (hr : pagesN n = r) : Calls Tryd.prog 16 #[.int .i64 n] w fun e w' => e = .returned (.int .i64 r) ∧ w = w' := by
  unfold pagesN at hr
  by_cases h : n ≤ 0
  · rw [if_pos h] at hr
    subst hr
    have d1 : decide (n ≤ 0) = true := decide_eq_true h
    clear h1 h2 h
    go_enter Tryd.func16, Tryd.ntmps16
    go_wp2_with fail
    go_ret
    exact ⟨rfl, rfl⟩
  · rw [if_neg h] at hr
    have d1 : decide (n ≤ 0) = false := decide_eq_false h
    obtain ⟨m, rfl⟩ : ∃ m, n = m + 1 := ⟨n - 1, by omega⟩
    have w1 : wrap64 m = m := by unfold wrap64; omega
    have q1 : Int.tdiv m 240 = m / 240 := Int.tdiv_eq_ediv_of_nonneg (by omega)
    obtain ⟨q, hq⟩ : ∃ q, m / 240 = q := ⟨_, rfl⟩
    have e1 : m + 1 - 1 = m := by omega
    rw [e1, hq] at hr
    have hq1 : q + 1 = r := hr
    have w2 : wrap64 (q + 1) = q + 1 := by unfold wrap64; omega
    have w3 : wrap64 q = q := by unfold wrap64; omega
    rw [hq] at q1
    have HR := Lib.hid hq1
    clear h1 h2 h hr hq hq1
    go_enter Tryd.func16, Tryd.ntmps16
    go_wp2_with fail
    go_ret
    exact ⟨by rw [← HR.out]; simp [q1, w1, w2, w3], rfl⟩
theorem rpages_any {n r : Int} (w : World) (h1 : -9223372036854775808 ≤ n) (h2 : n ≤ 9223372036854775807) (hr : pagesN n = r) : Calls Tryd.prog 17 #[.int .i64 n] w fun e w' => e = .returned (.int .i64 r) ∧ w = w' := by
  unfold pagesN at hr
  by_cases h : n ≤ 0
  · rw [if_pos h] at hr
    subst hr
    have d1 : decide (n < 1) = true := decide_eq_true (by omega)
    clear h1 h2 h
    go_enter Tryd.func17, Tryd.ntmps17
    go_wp2_with fail
    go_ret
    exact ⟨rfl, rfl⟩
  · rw [if_neg h] at hr
    have d1 : decide (n < 1) = false := decide_eq_false (by omega)
    have q1 : Int.tdiv n 240 = n / 240 := Int.tdiv_eq_ediv_of_nonneg (by omega)
    have q2 : Int.tmod n 240 = n % 240 := Int.tmod_eq_emod_of_nonneg (by omega)
    obtain ⟨q, hq⟩ : ∃ q, n / 240 = q := ⟨_, rfl⟩
    obtain ⟨s, hs⟩ : ∃ s, n % 240 = s := ⟨_, rfl⟩
    have hqs : n = 240 * q + s ∧ 0 ≤ s ∧ s < 240 := by omega
    have w2 : wrap64 (q + 1) = q + 1 := by unfold wrap64; omega
    have w3 : wrap64 q = q := by unfold wrap64; omega
    rw [hq] at q1
    rw [hs] at q2
    by_cases h0 : 0 < s
    · have d2 : decide (0 < s) = true := decide_eq_true h0
      have HR := Lib.hid (show q + 1 = r by omega)
      clear h1 h2 h hr hq hs hqs h0
      go_enter Tryd.func17, Tryd.ntmps17
      go_wp2_with fail
      go_ret
      exact ⟨by rw [← HR.out]; simp [q1, w2, w3], rfl⟩
    · have d2 : decide (0 < s) = false := decide_eq_false h0
      have HR := Lib.hid (show q = r by omega)
      clear h1 h2 h hr hq hs hqs h0
      go_enter Tryd.func17, Tryd.ntmps17
      go_wp2_with fail
      go_ret
      exact ⟨by rw [← HR.out]; simp [q1, w2, w3], rfl⟩
end Go.Proofs.YtnnclfaibcedoaaDoor.Cnt
