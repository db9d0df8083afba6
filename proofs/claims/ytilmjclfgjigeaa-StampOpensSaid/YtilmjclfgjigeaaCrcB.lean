/- What the sums' functions answer, each by its contract (every input). -/
import Derived.Test.YtilmjclfgjigeaaProg
import Derived.Test.YtilmjclfgjigeaaCrcA
import Derived.Test.YtilmjclfgjigeaaWMore
import Derived.Lib.Hide
import Derived.WalkSpells
namespace Go.Proofs.Ytilmjclfgjigeaa.Crc
open Go Go.RowKit Go.Proofs.YtilmjclfgjigeaaW.PrintWords Go.Proofs.YtilmjclfgjigeaaW.PrintMore

theorem ret32 {a b : Int} (h : a = b) : Ending.returned (.int .u32 a) = .returned (.int .u32 b) := by rw [h]

set_option maxHeartbeats 800000 in
theorem behind_any (n : BitVec 32) (w : World) :
    Calls Try.prog 27 #[.int .u32 (n.toNat : Int)] w fun e w' => e = .returned (.int .u32 ((beh n).toNat : Int)) ∧ w = w' := by
  go_enter Try.func27, Try.ntmps27
  go_wp2
  go_loop [0, 3] (fun a i => ∃ k : Nat, k ≤ 8 ∧ i = .int .i64 k ∧ a = .int .u32 ((iter bit k n).toNat : Int)) (fun _ i => 8 - (intOf i).toNat)
  case atStart => exact ⟨0, by omega, rfl, rfl⟩
  case round =>
    obtain ⟨k, hk, rfl, rfl⟩ := hrel
    by_cases hlt : k < 8
    · go_wp2
      go_round
      case rel => exact ⟨k + 1, by omega, by go_num, by rw [step_spell]; rfl⟩
      case measure => simp [intOf]; omega
    · go_wp2
      go_ret
      obtain rfl : k = 8 := by omega
      exact ⟨ret32 (by rw [beh_def]), rfl⟩


theorem behind_at {x : Int} {n : BitVec 32} (h : x = (n.toNat : Int)) (w : World) :
    Calls Try.prog 27 #[.int .u32 x] w fun e w' => e = .returned (.int .u32 ((beh n).toNat : Int)) ∧ w = w' := by
  subst h; exact behind_any n w

set_option maxHeartbeats 800000 in
theorem rbit_any (n : BitVec 32) (w : World) :
    Calls Try.prog 28 #[.int .u32 (n.toNat : Int)] w fun e w' => e = .returned (.int .u32 ((bit n).toNat : Int)) ∧ w = w' := by
  have h := n.isLt
  by_cases h1 : (n.toNat : Int) % 2 = 1
  · go_enter Try.func28, Try.ntmps28
    go_wp2
    go_ret
    exact ⟨ret32 (rstep_odd n h1), rfl⟩
  · go_enter Try.func28, Try.ntmps28
    go_wp2
    go_ret
    exact ⟨ret32 (rstep_even n h1), rfl⟩

set_option maxHeartbeats 800000 in
theorem more_any (s : BitVec 32) (xs : List Int) (A : Option Addr) (n c : Nat) (w : World) (HR : ReadsInt w .u8 A n xs) :
    Calls Try.prog 17 #[.int .u32 (s.toNat : Int), .slice A n c] w fun e w' => e = .returned (.int .u32 ((more s xs).toNat : Int)) ∧ w = w' := by
  have hn := HR.2.1
  have HL := Lib.hid HR.1
  have HRH := Lib.hid HR
  clear HR
  have hsg : IntKind.u32.signed = false := rfl
  have hmx : IntKind.u32.max = 4294967295 := rfl
  go_enter Try.func17, Try.ntmps17
  go_wp2
  go_loop [5, 12] (fun a i => ∃ k : Nat, k ≤ n ∧ i = .int .i64 k ∧ a = .int .u32 ((run (~~~ s) (xs.take k)).toNat : Int)) (fun _ i => n - (intOf i).toNat)
  case atStart => exact ⟨0, by omega, rfl, by rw [start_spell]; rfl⟩
  case round =>
    obtain ⟨k, hk, rfl, rfl⟩ := hrel
    by_cases hlt : k < n
    · obtain ⟨ad, rfl, hc0⟩ := HRH.out.at_ k (by omega) (by omega)
      have hc : w.cell? (ad.add k) = some (.int .u8 (rd xs k)) := hc0
      clear hc0
      go_wp2_with (go_at_call 27; refine (behind_at (byte_spell _ _) _).mono ?_; rintro e w' ⟨rfl, rfl⟩)
      go_round
      case rel =>
        refine ⟨k + 1, by omega, by go_num, ?_⟩
        rw [run_take xs k (by rw [HL.out]; exact hlt)]; rfl
      case measure => simp [intOf]; omega
    · go_wp2
      go_ret
      refine ⟨ret32 ?_, rfl⟩
      rw [start_spell, List.take_of_length_le (by rw [HL.out]; omega)]; rfl

set_option maxHeartbeats 800000 in
theorem sum_any (xs : List Int) (A : Option Addr) (n c : Nat) (w : World) (HR : ReadsInt w .u8 A n xs) :
    Calls Try.prog 15 #[.slice A n c] w fun e w' => e = .returned (.int .u32 ((more 0 xs).toNat : Int)) ∧ w = w' := by
  have HRH := Lib.hid HR
  clear HR
  go_enter Try.func15, Try.ntmps15
  go_wp2_with (go_at_call 17; refine (more_any 0 xs A n c _ HRH.out).mono ?_; rintro e w' ⟨rfl, rfl⟩)
  go_ret
  exact ⟨rfl, rfl⟩

set_option maxHeartbeats 800000 in
theorem rmore_any (s : BitVec 32) (xs : List Int) (A : Option Addr) (n c : Nat) (w : World) (HR : ReadsInt w .u8 A n xs) :
    Calls Try.prog 18 #[.int .u32 (s.toNat : Int), .slice A n c] w fun e w' => e = .returned (.int .u32 ((more s xs).toNat : Int)) ∧ w = w' := by
  have hn := HR.2.1
  have HL := Lib.hid HR.1
  have HRH := Lib.hid HR
  clear HR
  go_enter Try.func18, Try.ntmps18
  go_wp2
  go_loop [5, 6] (fun a i => ∃ k : Nat, k ≤ n ∧ i = .int .i64 k ∧ a = .int .u32 ((run (~~~ s) (xs.take k)).toNat : Int)) (fun _ i => n - (intOf i).toNat)
  case atStart => exact ⟨0, by omega, rfl, by rw [start_spell']; rfl⟩
  case round =>
    obtain ⟨k, hk, rfl, rfl⟩ := hrel
    by_cases hlt : k < n
    · obtain ⟨ad, rfl, hc0⟩ := HRH.out.at_ k (by omega) (by omega)
      have hc : w.cell? (ad.add k) = some (.int .u8 (rd xs k)) := hc0
      clear hc0
      go_wp2
      go_loop [5, 7] (fun a i => ∃ j : Nat, j ≤ 8 ∧ i = .int .i64 j ∧ a = .int .u32 ((iter bit j (run (~~~ s) (xs.take k) ^^^ u (rd xs k))).toNat : Int)) (fun _ i => 8 - (intOf i).toNat)
      case atStart => exact ⟨0, by omega, rfl, by rw [byte_spell]; rfl⟩
      case round =>
        obtain ⟨j, hj, rfl, rfl⟩ := hrel
        by_cases hj8 : j < 8
        · go_wp2_with (go_at_call 28; refine (rbit_any _ _).mono ?_; rintro e w' ⟨rfl, rfl⟩)
          go_round
          case rel => exact ⟨j + 1, by omega, by go_num, rfl⟩
          case measure => simp [intOf]; omega
        · go_wp2
          go_round
          case rel =>
            obtain rfl : j = 8 := by omega
            refine ⟨k + 1, by omega, by go_num, ?_⟩
            rw [run_take xs k (by rw [HL.out]; exact hlt), beh_def]; rfl
          case measure => simp [intOf]; omega
    · go_wp2
      go_ret
      refine ⟨ret32 ?_, rfl⟩
      rw [start_spell', List.take_of_length_le (by rw [HL.out]; omega)]; rfl

set_option maxHeartbeats 800000 in
theorem rsum_any (xs : List Int) (A : Option Addr) (n c : Nat) (w : World) (HR : ReadsInt w .u8 A n xs) :
    Calls Try.prog 16 #[.slice A n c] w fun e w' => e = .returned (.int .u32 ((more 0 xs).toNat : Int)) ∧ w = w' := by
  have HRH := Lib.hid HR
  clear HR
  go_enter Try.func16, Try.ntmps16
  go_wp2_with (go_at_call 18; refine (rmore_any 0 xs A n c _ HRH.out).mono ?_; rintro e w' ⟨rfl, rfl⟩)
  go_ret
  exact ⟨rfl, rfl⟩

end Go.Proofs.Ytilmjclfgjigeaa.Crc
