/- The walk of the law CrcKnown: the call returns true, nothing that was there is changed. -/
import Derived.Test.YtilmjclfgjigeaaCrcG
set_option linter.unusedVariables false
set_option linter.unusedSimpArgs false
namespace Go.Proofs.Ytilmjclfgjigeaa.Crc
open Go Go.RowKit Go.Proofs.YtilmjclfgjigeaaW.PrintWords Go.Proofs.YtilmjclfgjigeaaW.PrintLast Go.Proofs.YtilmjclfgjigeaaW.PrintMore Base

theorem iter_zero : ∀ n, iter beh n 0#32 = 0#32
  | 0 => rfl
  | n + 1 => by
    show beh (iter beh n 0#32) = _
    rw [iter_zero n]; exact beh_lin.zero
theorem known_far : joined (joined 1#32 0#32 (4611686018427387904 : Int).toNat) 2#32 (4611686018427387903 : Int).toNat = joined 1#32 2#32 (9223372036854775807 : Int).toNat := by
  rw [joined_joined]
  have h1 : joined 0#32 2#32 (4611686018427387903 : Int).toNat = 2#32 := by rw [joined_is, iter_zero]; rfl
  rw [h1]
  congr 1

set_option maxRecDepth 100000 in
set_option maxHeartbeats 1600000 in
theorem known_walk (w : World) : Calls Try.prog 9 #[] w fun e w' => e = .returned (.bool true) ∧ Below w.heap.size w w' := by
  have kc := fun (w : World) (C : Array Value) (n c g : Nat) (hg : g = w.heap.size) => Joins.run_convert_bytes_const_at (P := Try.prog) w 23 5 C n c g hg Try.underlying23 Try.underlying5
  obtain ⟨y, hy⟩ : ∃ y : BitVec 32, joined 1#32 0#32 (4611686018427387904 : Int).toNat = y := ⟨_, rfl⟩
  obtain ⟨r, hr⟩ : ∃ r : Int, ((joined 1#32 2#32 (9223372036854775807 : Int).toNat).toNat : Int) = r := ⟨_, rfl⟩
  have hz : ((joined y 2#32 (4611686018427387903 : Int).toNat).toNat : Int) = r := by rw [← hr, ← hy, known_far]
  have HY := Lib.hid (congrArg (fun x : BitVec 32 => (x.toNat : Int)) hy)
  have HR := Lib.hid hr
  have HZ := Lib.hid hz
  clear hy hr hz
  go_enter Try.func9, Try.ntmps9
  go_wp2_with fail
  refine (sum_at (r := 4131058926) _ (lit_at [49, 50, 51, 52] (by simp) (by decide)) (by decide +kernel)).mono ?_; rintro e w' ⟨rfl, rfl⟩
  go_wp2_with fail
  refine (sum_at (r := 2209703384) _ (lit_at [53, 54, 55, 56, 57] (by simp) (by decide)) (by decide +kernel)).mono ?_; rintro e w' ⟨rfl, rfl⟩
  go_wp2_with fail
  refine (joined_at (a := 4131058926#32) (b := 2209703384#32) (r := 3808858755) _ (by decide) (by decide) (by decide) (by rw [joined_is]; decide +kernel)).mono ?_; rintro e w1 ⟨rfl, hb1⟩; have HB1 := Lib.hid hb1; clear hb1
  go_wp2_with fail
  refine (joined_at (a := 7#32) (b := 0#32) (r := 7) _ (by decide) (by decide) (by decide) (by rw [joined_is]; decide +kernel)).mono ?_; rintro e w2 ⟨rfl, hb2⟩; have HB2 := Lib.hid hb2; clear hb2
  go_wp2_with fail
  refine (more_at (t := 7#32) (r := 7) _ (reads_nil _ _ _) (by decide) (by decide +kernel)).mono ?_; rintro e w' ⟨rfl, rfl⟩
  go_wp2_with fail
  refine (joined_at (a := 1#32) (b := 2#32) (r := r) _ (by decide) (by decide) (by decide) HR.out).mono ?_; rintro e w3 ⟨rfl, hb3⟩; have HB3 := Lib.hid hb3; clear hb3
  go_wp2_with fail
  refine (joined_at (a := 1#32) (b := 0#32) (r := (y.toNat : Int)) _ (by decide) (by decide) (by decide) HY.out).mono ?_; rintro e w4 ⟨rfl, hb4⟩; have HB4 := Lib.hid hb4; clear hb4
  go_wp2_with fail
  refine (joined_at (a := y) (b := 2#32) (r := r) _ rfl (by decide) (by decide) HZ.out).mono ?_; rintro e w5 ⟨rfl, hb5⟩; have HB5 := Lib.hid hb5; clear hb5
  go_wp2_with fail
  (with_reducible refine (wakes_any _).mono ?_); rintro e w6 ⟨rfl, hb6⟩; have HB6 := Lib.hid hb6; clear hb6
  go_wp2_with fail
  go_ret
  have h0 : Below w.heap.size w ((w.alloc (.cells (nums .u8 [49, 50, 51, 52]).toArray 5 (4, 5))).alloc (.cells (nums .u8 [53, 54, 55, 56, 57]).toArray 5 (5, 6))) := (((Below.refl _ _).alloc (Nat.le_refl _) _).alloc (by simp) _)
  have h1 := below_then h0 h0.size HB1.out
  have h2 := below_then h1 h1.size HB2.out
  have h3 := below_then h2 h2.size HB3.out
  have h4 := below_then h3 h3.size HB4.out
  have h5 := below_then h4 h4.size HB5.out
  exact ⟨rfl, below_then h5 h5.size HB6.out⟩
end Go.Proofs.Ytilmjclfgjigeaa.Crc
