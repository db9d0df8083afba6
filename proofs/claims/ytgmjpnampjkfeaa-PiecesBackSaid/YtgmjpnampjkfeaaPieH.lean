/- Pieces: the chapter's rows and the limits: the walk. -/
import Derived.Test.YtgmjpnampjkfeaaPieG
set_option linter.unusedVariables false
set_option linter.unusedSimpArgs false
namespace Go.Proofs.Ytgmjpnampjkfeaa.Pie
open Go Go.RowKit Go.Proofs.YtgmjpnampjkfeaaW.PrintWords Go.Proofs.YtgmjpnampjkfeaaW.PrintLast Go.Proofs.YtgmjpnampjkfeaaW.PrintMore Base

theorem pl_len {w w' : World} {e : Ending} {k : Nat} {cs : List Value} (h : PL w w' e k cs) : ∃ A, e = .returned (.slice A k k) ∧ Below w.heap.size w w' := by
  obtain ⟨A, c, rfl, ho, hb⟩ := h
  exact ⟨A, rfl, hb⟩
theorem kcut0 (w : World) : Calls Try.prog 14 #[.int .u64 256, .int .u64 256] w fun e w' => PL w w' e 1 [.int .u64 1, .int .i64 0, .int .i64 256, .int .i64 0] := cut_at (O := 256) (N := 256) (k := 1) w (by omega) (by omega) (by kernel_rfl)
theorem kcut1 (w : World) : Calls Try.prog 14 #[.int .u64 5, .int .u64 0] w fun e w' => ∃ A, e = .returned (.slice A 0 0) ∧ Below w.heap.size w w' := (cut_at (O := 5) (N := 0) (k := 0) w (by omega) (by omega) (by kernel_rfl)).mono fun e w' h => pl_len h
theorem kcut2 (w : World) : Calls Try.prog 14 #[.int .u64 4294967295, .int .u64 2] w fun e w' => ∃ A, e = .returned (.slice A 0 0) ∧ Below w.heap.size w w' := (cut_at (O := 4294967295) (N := 2) (k := 0) w (by omega) (by omega) (by kernel_rfl)).mono fun e w' h => pl_len h
theorem kcut3 (w : World) : Calls Try.prog 14 #[.int .u64 4294967295, .int .u64 1] w fun e w' => ∃ A, e = .returned (.slice A 1 1) ∧ Below w.heap.size w w' := (cut_at (O := 4294967295) (N := 1) (k := 1) w (by omega) (by omega) (by kernel_rfl)).mono fun e w' h => pl_len h
theorem kcut4 (w : World) : Calls Try.prog 14 #[.int .u64 0, .int .u64 65536] w fun e w' => ∃ A, e = .returned (.slice A 256 256) ∧ Below w.heap.size w w' := (cut_at (O := 0) (N := 65536) (k := 256) w (by omega) (by omega) (by kernel_rfl)).mono fun e w' h => pl_len h
theorem kcut5 (w : World) : Calls Try.prog 14 #[.int .u64 0, .int .u64 65537] w fun e w' => ∃ A, e = .returned (.slice A 0 0) ∧ Below w.heap.size w w' := (cut_at (O := 0) (N := 65537) (k := 0) w (by omega) (by omega) (by kernel_rfl)).mono fun e w' h => pl_len h
theorem kcut6 (w : World) : Calls Try.prog 14 #[.int .u64 18446744073709551615, .int .u64 18446744073709551615] w fun e w' => ∃ A, e = .returned (.slice A 0 0) ∧ Below w.heap.size w w' := (cut_at (O := 18446744073709551615) (N := 18446744073709551615) (k := 0) w (by omega) (by omega) (by kernel_rfl)).mono fun e w' h => pl_len h
theorem kinner0 (w : World) : Calls Try.prog 11 #[.int .u64 0, .int .u64 255] w fun e w' => e = .returned (.tuple #[.int .u64 0, .int .u64 0]) ∧ w = w' := inner_any 0 255 w (by omega) (by omega)
theorem kinner1 (w : World) : Calls Try.prog 11 #[.int .u64 256, .int .u64 512] w fun e w' => e = .returned (.tuple #[.int .u64 1, .int .u64 3]) ∧ w = w' := inner_any 256 512 w (by omega) (by omega)
theorem kinner2 (w : World) : Calls Try.prog 11 #[.int .u64 0, .int .u64 4294967296] w fun e w' => e = .returned (.tuple #[.int .u64 0, .int .u64 16777216]) ∧ w = w' := inner_any 0 4294967296 w (by omega) (by omega)
theorem kinner3 (w : World) : Calls Try.prog 11 #[.int .u64 0, .int .u64 4294967297] w fun e w' => e = .returned (.tuple #[.int .u64 0, .int .u64 0]) ∧ w = w' := inner_any 0 4294967297 w (by omega) (by omega)
set_option maxRecDepth 100000 in
set_option maxHeartbeats 1600000 in
theorem known_walk (w : World) : Calls Try.prog 7 #[] w fun e w' => e = .returned (.bool true) ∧ Below w.heap.size w w' := by
  go_enter Try.func7, Try.ntmps7
  go_wp2_with fail
  refine (kcut0 _).mono ?_; rintro e w1 h
  obtain ⟨g, rfl, hc, hg, hb⟩ := pl_some h (by omega)
  have x0 := hc 0 _ rfl
  have x1 := hc 1 _ rfl
  have x2 := hc 2 _ rfl
  have x3 := hc 3 _ rfl
  have B1 := Lib.hid hb
  clear h hc hg hb
  go_wp2_with fail
  refine (kinner0 _).mono ?_; rintro e w2 ⟨rfl, rfl⟩
  go_wp2_with fail
  refine (kinner1 _).mono ?_; rintro e w2 ⟨rfl, rfl⟩
  go_wp2_with fail
  refine (kinner2 _).mono ?_; rintro e w2 ⟨rfl, rfl⟩
  go_wp2_with fail
  refine (kinner3 _).mono ?_; rintro e w2 ⟨rfl, rfl⟩
  go_wp2_with fail
  refine (kcut1 _).mono ?_; rintro e w2 ⟨A2, rfl, hb⟩
  have B2 := Lib.hid (below_then B1.out B1.out.size hb)
  clear hb
  go_wp2_with fail
  refine (kcut2 _).mono ?_; rintro e w3 ⟨A3, rfl, hb⟩
  have B3 := Lib.hid (below_then B2.out B2.out.size hb)
  clear hb
  go_wp2_with fail
  refine (kcut3 _).mono ?_; rintro e w4 ⟨A4, rfl, hb⟩
  have B4 := Lib.hid (below_then B3.out B3.out.size hb)
  clear hb
  go_wp2_with fail
  refine (kcut4 _).mono ?_; rintro e w5 ⟨A5, rfl, hb⟩
  have B5 := Lib.hid (below_then B4.out B4.out.size hb)
  clear hb
  go_wp2_with fail
  refine (kcut5 _).mono ?_; rintro e w6 ⟨A6, rfl, hb⟩
  have B6 := Lib.hid (below_then B5.out B5.out.size hb)
  clear hb
  go_wp2_with fail
  refine (kcut6 _).mono ?_; rintro e w7 ⟨A7, rfl, hb⟩
  have B7 := Lib.hid (below_then B6.out B6.out.size hb)
  clear hb
  go_wp2_with fail
  refine (wakes_any _).mono ?_; rintro e w8 ⟨rfl, hb⟩
  have B8 := Lib.hid (below_then B7.out B7.out.size hb)
  clear hb
  go_wp2_with fail
  go_ret
  exact ⟨rfl, B8.out⟩
end Go.Proofs.Ytgmjpnampjkfeaa.Pie
