/- The walks of the laws CrcSums and CrcJoins: the call returns true, nothing that was there is changed (every input). -/
import Derived.Test.YtilmjclfgjigeaaCrcF
set_option linter.unusedVariables false
set_option linter.unusedSimpArgs false
namespace Go.Proofs.Ytilmjclfgjigeaa.Crc
open Go Go.RowKit Go.Proofs.YtilmjclfgjigeaaW.PrintWords Go.Proofs.YtilmjclfgjigeaaW.PrintLast Go.Proofs.YtilmjclfgjigeaaW.PrintMore Base

theorem info5 : (Try.prog.info? 5).map (fun i => (i.zero, i.size, i.bytes)) = some (some (.int .u8 0), 1, 1) := by kernel_rfl
theorem of_wf32 {a : Int} (h : (Lit.int .u32 a).wf = true) : ∃ b : BitVec 32, a = (b.toNat : Int) := by
  have hmin : IntKind.u32.min = 0 := rfl
  have hmax : IntKind.u32.max = 4294967295 := rfl
  simp only [Lit.wf, Bool.and_eq_true, decide_eq_true_eq] at h
  refine ⟨BitVec.ofNat 32 a.toNat, ?_⟩
  rw [BitVec.toNat_ofNat]
  omega
theorem le_of_wf64 {a : Int} (h : (Lit.int .i64 a).wf = true) : -9223372036854775808 ≤ a ∧ a ≤ 9223372036854775807 := by
  have hmin : IntKind.i64.min = -9223372036854775808 := rfl
  have hmax : IntKind.i64.max = 9223372036854775807 := rfl
  simp only [Lit.wf, Bool.and_eq_true, decide_eq_true_eq] at h
  omega

set_option maxRecDepth 100000 in
set_option maxHeartbeats 1600000 in
theorem joins_walk (a : Int) (wa : (Lit.int .u32 a).wf = true) (b : Int) (wb : (Lit.int .u32 b).wf = true) (n : Int) (wn : (Lit.int .i64 n).wf = true) (w : World) :
    Calls Try.prog 4 #[.int .u32 a, .int .u32 b, .int .i64 n] w fun e w' => e = .returned (.bool true) ∧ Below w.heap.size w w' := by
  obtain ⟨a, rfl⟩ := of_wf32 wa
  obtain ⟨b, rfl⟩ := of_wf32 wb
  have hn := (le_of_wf64 wn).2
  clear wa wb wn
  go_enter Try.func4, Try.ntmps4
  go_wp2_with (first | (go_at_call 20; refine (joined_any a b n _ hn).mono ?_; rintro e w1 ⟨rfl, hb1⟩; have HB1 := Lib.hid hb1; clear hb1; rw [joined_eq]) | (go_at_call 21; refine (rjoined_any a b n _ hn).mono ?_; rintro e w2 ⟨rfl, rfl⟩) | (go_at_call 19; refine (wakes_any _).mono ?_; rintro e w3 ⟨rfl, hb3⟩; have HB3 := Lib.hid hb3; clear hb3))
  go_ret
  exact ⟨rfl, below_then HB1.out HB1.out.size HB3.out⟩

set_option maxRecDepth 100000 in
set_option maxHeartbeats 1600000 in
theorem sums_walk (s : Int) (ws : (Lit.int .u32 s).wf = true) (A : Option Addr) (c : Nat) (l : List Int) (w : World) (hr : ReadsInt w .u8 A l.length l) (hl : l.length * 1 ≤ 140737488351232) (hw : ∀ x ∈ l, (Lit.int .u8 x).wf = true) (hc : l.length ≤ c) :
    Calls Try.prog 3 #[.int .u32 s, .slice A l.length c] w fun e w' => e = .returned (.bool true) ∧ Below w.heap.size w w' := by
  obtain ⟨s, rfl⟩ := of_wf32 ws
  have HR := Lib.hid hr
  clear hr ws hw
  go_enter Try.func3, Try.ntmps3
  go_wp2_with (at_builtin; refine print_append_row (w0 := w) w.heap.size rfl _ _ 23 5 .u8 1 rfl Try.underlying23 info5 (by omega) (.slice none 0 0) [] l A l.length c rfl rfl (own_nil _ _ _ _) HR.out (Below.refl _ _) (Nat.le_refl _) (by simp; omega) ?_)
  intro v1 w1 hown hb hg hat
  obtain ⟨A1, c1, rfl, hr1⟩ := own_reads hown
  have HR1 := Lib.hid hr1
  have HR2 := Lib.hid (ReadsInt.below HR.out hb)
  have hz := hb.size
  have HB := Lib.hid hb
  clear hown hb hg hat hr1
  have hs1 := string_of_reads (c := c1) Try.underlying23 Try.underlying5 Try.underlying9 HR1.out
  have hs2 := string_of_reads (c := c) Try.underlying23 Try.underlying5 Try.underlying9 HR2.out
  go_wp2_with fail
  (with_reducible refine (sum_any l A1 _ c1 _ HR1.out).mono ?_); rintro e w' ⟨rfl, rfl⟩
  go_wp2_with fail
  (with_reducible refine (rsum_any l A _ c _ HR2.out).mono ?_); rintro e w' ⟨rfl, rfl⟩
  go_wp2_with fail
  (with_reducible refine (more_any s l A1 _ c1 _ HR1.out).mono ?_); rintro e w' ⟨rfl, rfl⟩
  go_wp2_with fail
  (with_reducible refine (rmore_any s l A _ c _ HR2.out).mono ?_); rintro e w' ⟨rfl, rfl⟩
  go_wp2_with fail
  (with_reducible refine (wakes_any _).mono ?_); rintro e w3 ⟨rfl, hb3⟩; have HB3 := Lib.hid hb3; clear hb3
  go_wp2_with fail
  go_ret
  exact ⟨rfl, below_then HB.out HB.out.size HB3.out⟩
end Go.Proofs.Ytilmjclfgjigeaa.Crc
