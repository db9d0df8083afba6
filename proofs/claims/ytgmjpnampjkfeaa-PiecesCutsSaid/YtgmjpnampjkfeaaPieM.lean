/- Pieces: two lists of the same pieces are the same, by the document's Same. -/
import Derived.BigQuiet
import Derived.Test.YtgmjpnampjkfeaaPieK
set_option linter.unusedVariables false
set_option linter.unusedSimpArgs false
namespace Go.Proofs.Ytgmjpnampjkfeaa.Pie
open Go Go.RowKit Go.Proofs.YtgmjpnampjkfeaaW.PrintWords Go.Proofs.YtgmjpnampjkfeaaW.PrintLast Go.Proofs.YtgmjpnampjkfeaaW.PrintMore Base

/-- The cells of a slice are these pieces. -/
def Has (w : World) (A : Option Addr) (k : Nat) (F : Nat → Int × Int × Int × Int) : Prop :=
  ∀ j, j < k → ∃ g, A = some ⟨g, 0, none⟩ ∧ w.cell? ⟨g, j * 4, none⟩ = some (.int .u64 (F j).1) ∧ w.cell? ⟨g, j * 4 + 1, none⟩ = some (.int .i64 (F j).2.1) ∧
    w.cell? ⟨g, j * 4 + 2, none⟩ = some (.int .i64 (F j).2.2.1) ∧ w.cell? ⟨g, j * 4 + 3, none⟩ = some (.int .i64 (F j).2.2.2)
theorem has_below {w w' : World} {A : Option Addr} {k : Nat} {F : Nat → Int × Int × Int × Int} (h : Has w A k F) (hb : Below w.heap.size w w') : Has w' A k F := by
  intro j hj
  obtain ⟨g, e, h0, h1, h2, h3⟩ := h j hj
  exact ⟨g, e, pw_cell_below hb h0, pw_cell_below hb h1, pw_cell_below hb h2, pw_cell_below hb h3⟩
set_option maxRecDepth 100000 in
set_option maxHeartbeats 3200000 in
theorem same_at (K ca cb : Nat) (A B : Option Addr) (F : Nat → Int × Int × Int × Int) (w : World) (hA : Has w A K F) (hB : Has w B K F) (hK : K < 65538) (h1 : K ≤ ca) (h2 : K ≤ cb) :
    Calls Try.prog 13 #[.slice A K ca, .slice B K cb] w fun e w' => e = .returned (.bool true) ∧ Below w.heap.size w w' := by
  have HA := Lib.hid hA
  have HB := Lib.hid hB
  have HK := Lib.hid hK
  clear hA hB hK
  go_enter Try.func13, Try.ntmps13
  go_wp2_with fail
  go_loopw [5] (fun i wr => ∃ j : Nat, j ≤ K ∧ i = .int .i64 (j : Int) ∧ Below w.heap.size w wr) (fun i _ => K - (intOf i).toNat)
  case atStart => exact ⟨0, by omega, rfl, Below.refl _ _⟩
  case round =>
    obtain ⟨j, hj, rfl, hb⟩ := hrel
    have HR := Lib.hid hb
    by_cases hlj : j < K
    · obtain ⟨g, rfl, x0, x1, x2, x3⟩ := has_below HA.out hb j hlj
      obtain ⟨g', rfl, y0, y1, y2, y3⟩ := has_below HB.out hb j hlj
      have HLJ := Lib.hid hlj
      have hjK : j < 65538 := by have := HK.out; omega
      generalize (F j).1 = p0 at *
      generalize (F j).2.1 = p1 at *
      generalize (F j).2.2.1 = p2 at *
      generalize (F j).2.2.2 = p3 at *
      clear hb hj
      go_wp2_with fail
      go_quiet (fail)
      go_wp2_with fail
      go_roundw
      case rel => exact ⟨j + 1, by have := HLJ.out; omega, by push_cast; rfl, below_dn HR.out _⟩
      case measure => simp [intOf]; have := HLJ.out; omega
    · obtain rfl : j = K := by omega
      clear hj hlj hb
      go_wp2_with fail
      go_ret
      exact ⟨rfl, HR.out⟩
end Go.Proofs.Ytgmjpnampjkfeaa.Pie
