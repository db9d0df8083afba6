/- Pieces: Cut of the program, by its contract (every input). -/
import Derived.Test.YtgmjpnampjkfeaaPieD
set_option linter.unusedVariables false
set_option linter.unusedSimpArgs false
namespace Go.Proofs.Ytgmjpnampjkfeaa.Pie
open Go Go.RowKit Go.Proofs.YtgmjpnampjkfeaaW.PrintWords Go.Proofs.YtgmjpnampjkfeaaW.PrintLast Go.Proofs.YtgmjpnampjkfeaaW.PrintMore Base

/-- How many pieces Cut tells. -/
def cutK (O N : Nat) : Nat := if N ≤ 65536 ∧ O + N ≤ 4294967296 then cntP O N else 0
theorem below_grown_new {w w1 w2 : World} {g : Nat} (hb : Below w.heap.size w w1) (hg : w.heap.size ≤ g) (h : w1.grownBy w2 (some g)) : Below w.heap.size w w2 :=
  pw_below_grown hb _ hb.size h (fun k hk => by injection hk with hk; omega)
/-- What a call that makes a list of pieces leaves. -/
def PL (w w' : World) (e : Ending) (k : Nat) (cs : List Value) : Prop :=
  ∃ A c, e = .returned (.slice A k k) ∧ w'.ownsRow w.heap.size 31 4 (.slice A k c) k cs ∧ Below w.heap.size w w'
set_option maxRecDepth 100000 in
theorem cut_any (O N : Nat) (w : World) (hO : O < 18446744073709551616) (hN : N < 18446744073709551616) :
    Calls Try.prog 14 #[.int .u64 (O : Int), .int .u64 (N : Int)] w fun e w' => PL w w' e (cutK O N) (cutC O N (cutK O N)) := by
  by_cases hm : N ≤ 65536
  · have dm : decide ((65536 : Int) < (N : Int)) = false := decide_eq_false (by omega)
    by_cases hw : O + N ≤ 4294967296
    · have HW := Lib.hid (show within O N 4294967296 = true by simp only [within, Bool.and_eq_true, decide_eq_true_eq]; omega)
      have HK := Lib.hid (show cutK O N = cntP O N from if_pos ⟨hm, hw⟩)
      have HS := Lib.hid (And.intro hm hw)
      have HO := Lib.hid (And.intro hO hN)
      clear hm hw hO hN
      go_enter Try.func14, Try.ntmps14
      go_wp2_with fail
      refine (within_at _ (by have := HO.out; omega) (by have := HO.out; omega) (by omega) HW.out).mono ?_; rintro e w' ⟨rfl, rfl⟩
      obtain ⟨w1, hw1, b1, f1, s1⟩ := made w #[.int .u64 (O : Int), .int .u64 (N : Int), .int .i64 0] 47
      have R1 := Lib.hid (show w1.heap[w.heap.size]? = some (.cells (stv O N 0) 47) by rw [f1]; simp [stv, okN])
      have B1 := Lib.hid b1
      clear f1 b1 s1
      go_wp2_with fail
      refine (all_any O N w.heap.size w1 HS.out.2 HS.out.1 R1.out).mono ?_; rintro e w2 ⟨A, c, rfl, ho, hg⟩
      have HRES := Lib.hid (And.intro ho hg)
      clear ho hg
      go_wp2_with fail
      go_ret
      rw [HK.out]
      exact ⟨A, c, rfl, own_weaken HRES.out.1 B1.out.size, below_grown_new B1.out (Nat.le_refl _) HRES.out.2⟩
    · have HW := Lib.hid (show within O N 4294967296 = false by
        cases h : within O N 4294967296 with
        | false => rfl
        | true => simp only [within, Bool.and_eq_true, decide_eq_true_eq] at h; omega)
      have HK := Lib.hid (show cutK O N = 0 from if_neg (fun h => hw h.2))
      have HO := Lib.hid (And.intro hO hN)
      clear hm hw hO hN
      go_enter Try.func14, Try.ntmps14
      go_wp2_with fail
      refine (within_at _ (by have := HO.out; omega) (by have := HO.out; omega) (by omega) HW.out).mono ?_; rintro e w' ⟨rfl, rfl⟩
      go_wp2_with fail
      go_ret
      rw [HK.out]
      exact ⟨none, 0, rfl, own_nil _ _ _ _, Below.refl _ _⟩
  · have dm : decide ((65536 : Int) < (N : Int)) = true := decide_eq_true (by omega)
    have HK := Lib.hid (show cutK O N = 0 from if_neg (fun h => hm h.1))
    clear hm hO hN
    go_enter Try.func14, Try.ntmps14
    go_wp2_with fail
    go_ret
    rw [HK.out]
    exact ⟨none, 0, rfl, own_nil _ _ _ _, Below.refl _ _⟩
theorem cut_at {O N : Nat} {k : Nat} (w : World) (hO : O < 18446744073709551616) (hN : N < 18446744073709551616) (hk : cutK O N = k) :
    Calls Try.prog 14 #[.int .u64 (O : Int), .int .u64 (N : Int)] w fun e w' => PL w w' e k (cutC O N k) := by subst hk; exact cut_any O N w hO hN
/-- The cells of a list of pieces. -/
theorem own_cell4 {w : World} {base g c k : Nat} {cs : List Value} (h : w.ownsRow base 31 4 (.slice (some ⟨g, 0, none⟩) k c) k cs) (i : Nat) (u : Value) (hu : cs[i]? = some u) : w.cell? ⟨g, i, none⟩ = some u := by
  have := h.cells (g := g) rfl i u hu
  rwa [add_plain] at this
end Go.Proofs.Ytgmjpnampjkfeaa.Pie
