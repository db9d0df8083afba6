/- The document's Seal, by its contract (every input). -/
import Derived.Test.YtilmjclfgjigeaaStpE
set_option linter.unusedVariables false
set_option linter.unusedSimpArgs false
namespace Go.Proofs.Ytilmjclfgjigeaa.Stp
open Go Go.RowKit Go.Proofs.YtilmjclfgjigeaaW.PrintWords Go.Proofs.YtilmjclfgjigeaaW.PrintLast Go.Proofs.YtilmjclfgjigeaaW.PrintMore Base2 Odr
open Crc (more made23)

def F1 (p : List Int) (i : Nat) (k : Nat) : Int := if k < i then p.getD k 0 else 0
def F2 (p : List Int) (m : Int) (j : Nat) (k : Nat) : Int := if k < 240 then p.getD k 0 else if 248 - j ≤ k ∧ k < 248 then m / (2 : Int) ^ (8 * (247 - k)) % 256 else 0
def F4 (H : Nat → Int) (s : Int) (j : Nat) (k : Nat) : Int := if k < 252 then H k else if 256 - j ≤ k then s / (2 : Int) ^ (8 * (255 - k)) % 256 else 0
theorem F1_zero (p : List Int) : List.replicate 256 (0 : Int) = tab 256 (F1 p 0) := by
  rw [tab_of (List.replicate 256 (0 : Int)) 256 List.length_replicate]
  apply tab_congr
  intro k hk
  rw [List.getD_eq_getElem?_getD, List.getElem?_replicate, if_pos hk, F1, if_neg (by omega)]; rfl
theorem F1_set (p : List Int) (i : Nat) : (tab 256 (F1 p i)).set i (p.getD i 0) = tab 256 (F1 p (i + 1)) := by
  rw [tab_set]
  apply tab_congr
  intro k hk
  unfold F1
  by_cases h : k = i
  · rw [if_pos h, h, if_pos (by omega)]
  · rw [if_neg h]
    by_cases h2 : k < i
    · rw [if_pos h2, if_pos (by omega)]
    · rw [if_neg h2, if_neg (by omega)]
theorem F1_end (p : List Int) (m : Int) (h : p.length ≤ 240) : tab 256 (F1 p p.length) = tab 256 (F2 p m 0) := by
  apply tab_congr
  intro k hk
  unfold F1 F2
  have hz : ¬ k < p.length → p.getD k 0 = 0 := fun h => by rw [List.getD_eq_getElem?_getD, List.getElem?_eq_none (by omega)]; rfl
  by_cases h2 : k < p.length
  · rw [if_pos h2, if_pos (by omega)]
  · rw [if_neg h2, hz h2, if_neg (c := 248 - 0 ≤ k ∧ k < 248) (by omega)]; split <;> rfl
theorem F2_set (p : List Int) (m : Int) (j : Nat) (hj : j < 8) : (tab 256 (F2 p m j)).set (247 - j) (m / (2 : Int) ^ (8 * j) % 256) = tab 256 (F2 p m (j + 1)) := by
  rw [tab_set]
  apply tab_congr
  intro k hk
  unfold F2
  by_cases h : k = 247 - j
  · rw [if_pos h, if_neg (by omega), if_pos (by omega), h, show 247 - (247 - j) = j by omega]
  · rw [if_neg h]
    by_cases h2 : k < 240
    · rw [if_pos h2, if_pos h2]
    · rw [if_neg h2, if_neg h2]
      by_cases h3 : 248 - j ≤ k ∧ k < 248
      · rw [if_pos h3, if_pos (by omega)]
      · rw [if_neg h3, if_neg (by omega)]
theorem F2_end (p : List Int) (at_ kind s : Int) (k0 : 0 ≤ kind) (k1 : kind < 256) : (tab 256 (F2 p (u64 at_) 8)).set 251 kind = tab 256 (F4 (headF p at_ kind) s 0) := by
  rw [tab_set]
  apply tab_congr
  intro k hk
  unfold F2 F4 headF
  by_cases a : k < 240
  · rw [if_neg (by omega), if_pos a, if_pos (by omega), if_pos a]
  by_cases b : k < 248
  · rw [if_neg (by omega), if_neg a, if_pos (by omega), if_pos (by omega), if_neg a, if_pos b]
  by_cases d : k = 251
  · rw [if_pos d, if_pos (by omega), if_neg a, if_neg b, d]; simp; omega
  by_cases e : k < 252
  · rw [if_neg d, if_neg a, if_neg (by omega), if_pos e, if_neg a, if_neg b]
    obtain ⟨q, hq⟩ : ∃ q, 251 - k = q + 1 := ⟨250 - k, by omega⟩
    rw [hq, pow8, ← Int.ediv_ediv_of_nonneg (by decide), show kind / 256 = 0 by omega]; simp
  · rw [if_neg d, if_neg a, if_neg (by omega), if_neg e, if_neg (by omega)]
theorem F4_set (H : Nat → Int) (s : Int) (j : Nat) (hj : j < 4) : (tab 256 (F4 H s j)).set (255 - j) (s / (2 : Int) ^ (8 * j) % 256) = tab 256 (F4 H s (j + 1)) := by
  rw [tab_set]
  apply tab_congr
  intro k hk
  unfold F4
  by_cases h : k = 255 - j
  · rw [if_pos h, if_neg (by omega), if_pos (by omega), h, show 255 - (255 - j) = j by omega]
  · rw [if_neg h]
    by_cases h2 : k < 252
    · rw [if_pos h2, if_pos h2]
    · rw [if_neg h2, if_neg h2]
      by_cases h3 : 256 - j ≤ k
      · rw [if_pos h3, if_pos (by omega)]
      · rw [if_neg h3, if_neg (by omega)]
theorem F4_end (p : List Int) (at_ kind : Int) (h : p.length ≤ 240) : tab 256 (F4 (headF p at_ kind) (sumOf (head p at_ kind)) 4) = sealL p at_ kind := by
  rw [seal_tab p at_ kind h]
  apply tab_congr
  intro k hk
  unfold F4
  by_cases h2 : k < 252
  · rw [if_pos h2, if_pos h2]
  · rw [if_neg h2, if_neg h2, if_pos (by omega)]
theorem tab_take (f : Nat → Int) (g : Nat → Int) (h : ∀ i, i < 252 → f i = g i) : (tab 256 f).take 252 = tab 252 g := by
  unfold tab
  rw [← List.map_take, List.take_range, Nat.min_eq_left (by omega)]
  apply List.map_congr_left
  intro i hi
  exact h i (by simpa using hi)
theorem F4_take (p : List Int) (at_ kind s : Int) (h : p.length ≤ 240) : (tab 256 (F4 (headF p at_ kind) s 0)).take 252 = head p at_ kind := by
  rw [head_tab p at_ kind h]
  apply tab_take
  intro i hi
  unfold F4; rw [if_pos hi]
theorem div_step (m : Int) (j : Nat) : m / (2 : Int) ^ (8 * (j + 1)) = m / (2 : Int) ^ (8 * j) / 256 := by
  rw [pow8, Int.mul_comm, ← Int.ediv_ediv_of_nonneg (Int.le_of_lt (pow8_pos j))]
theorem div_bound (m : Int) (j : Nat) (b : Int) (h0 : 0 ≤ m) (h1 : m < b) : 0 ≤ m / (2 : Int) ^ (8 * j) ∧ m / (2 : Int) ^ (8 * j) < b := by
  have hp := pow8_pos j
  refine ⟨Int.ediv_nonneg h0 (Int.le_of_lt hp), Int.lt_of_le_of_lt (Int.ediv_le_self _ h0) h1⟩

set_option maxHeartbeats 1600000 in
theorem rseal_long (p : List Int) (A : Option Addr) (n c : Nat) (at_ kind : Int) (w : World) (hn : 240 < n) :
    Calls Try.prog 23 #[.slice A n c, .int .i64 at_, .int .u8 kind] w fun e w' => e = .returned (.tuple #[.slice none 0 0, .int .i64 3]) ∧ w = w' := by
  go_enter Try.func23, Try.ntmps23
  go_wp2
  go_ret2
  exact ⟨rfl, rfl⟩
set_option maxHeartbeats 1600000 in
theorem rseal_ok (p : List Int) (A : Option Addr) (n c : Nat) (at_ kind : Int) (w : World) (HR : ReadsInt w .u8 A n p) (hn : n ≤ 240) (h0 : 0 ≤ kind) (h1 : kind < 256) :
    Calls Try.prog 23 #[.slice A n c, .int .i64 at_, .int .u8 kind] w fun e w' => ∃ A' c', e = .returned (.tuple #[.slice A' 256 c', .int .i64 0]) ∧ w'.ownsRow w.heap.size 5 1 (.slice A' 256 c') 256 (nums .u8 (sealL p at_ kind)) ∧ Below w.heap.size w w' := by
  have hl := HR.1
  subst hl
  have hmk : ∀ W : World, (Instr.makeSlice 23 (.int .i64 256) (.int .i64 256)).run Try.prog W = .ok (.slice (some ⟨W.heap.size, 0, none⟩) 256 256) (W.alloc (.cells (madeCells #[.int .u8 0] 256) 5)) := made23 256 (by omega)
  obtain ⟨m, hm, m0, m1⟩ : ∃ m, u64 at_ = m ∧ 0 ≤ m ∧ m < 18446744073709551616 := ⟨_, rfl, by unfold u64; omega, by unfold u64; omega⟩
  have hmw : IntKind.u64.wrap at_ = m := by rw [wrap_u64]; exact hm
  obtain ⟨s, hsum, s0, s1⟩ : ∃ s, sumOf (head p at_ kind) = s ∧ 0 ≤ s ∧ s < 4294967296 := ⟨_, rfl, sumOf_range _⟩
  have HM := Lib.hid hm
  have HS := Lib.hid hsum
  have HRH := Lib.hid HR
  have hr1 := Lib.hid (own_made w w.heap.size 5 .u8 256 (Nat.le_refl _) (by omega))
  obtain ⟨G, hG⟩ : ∃ G, G = w.heap.size := ⟨_, rfl⟩
  have HG := Lib.hid hG
  clear HR hm hsum hG
  go_enter Try.func23, Try.ntmps23
  go_wp2_with fail
  go_loopw [9] (fun i wr => ∃ k : Nat, k ≤ p.length ∧ i = .int .i64 k ∧ wr.ownsRow w.heap.size 5 1 (.slice (some ⟨w.heap.size, 0, none⟩) 256 256) 256 (nums .u8 (tab 256 (F1 p k))) ∧ Below w.heap.size w wr) (fun i _ => p.length - (intOf i).toNat)
  case atStart => exact ⟨0, by omega, rfl, by rw [← F1_zero]; exact hr1.out, (Below.refl _ _).alloc (Nat.le_refl _) _⟩
  case round =>
    obtain ⟨k, hk, rfl, ho, hb⟩ := hrel
    have HO := Lib.hid ho
    have HB := Lib.hid hb
    clear ho hb
    by_cases hlt : k < p.length
    · obtain ⟨ad, rfl, hc0⟩ := (ReadsInt.below HRH.out HB.out).at_ k (by omega) (by omega)
      have hcell : wr.cell? (ad.add k) = some (.int .u8 (rd p k)) := hc0
      have hat := own_at HO.out (k : Int) (by omega) (by omega)
      have ea : wr.cell? ⟨w.heap.size, k, none⟩ = some (.int .u8 (rd (tab 256 (F1 p k)) k)) := hat.1
      have eb : wr.frozen? ⟨w.heap.size, k, none⟩ = false := hat.2
      clear hc0 hat
      go_wp2_with fail
      go_roundw
      case rel =>
        refine ⟨k + 1, by omega, by go_num, ?_, HB.out.setCell (Nat.le_refl _) _⟩
        rw [← F1_set]
        exact (own_store HO.out (k : Int) _).1
      case measure => simp [intOf]; omega
    · obtain rfl : k = p.length := by omega
      go_wp2_with fail
      go_loopw [10, 11] (fun v i wr => ∃ j : Nat, j ≤ 8 ∧ i = .int .i64 (247 - (j : Int)) ∧ v = .int .u64 (m / (2 : Int) ^ (8 * j)) ∧ wr.ownsRow w.heap.size 5 1 (.slice (some ⟨w.heap.size, 0, none⟩) 256 256) 256 (nums .u8 (tab 256 (F2 p m j))) ∧ Below w.heap.size w wr) (fun _ i _ => (intOf i - 239).toNat)
      case atStart => exact ⟨0, by omega, by rfl, by simp, by rw [← F1_end p m (by omega)]; exact HO.out, HB.out⟩
      case round =>
        clear HO HB
        obtain ⟨j, hj, rfl, rfl, ho, hb⟩ := hrel
        have HO := Lib.hid ho
        have HB := Lib.hid hb
        clear ho hb
        by_cases hlt2 : j < 8
        · have hd := div_bound m j 18446744073709551616 m0 m1
          have hst := div_step m j
          have hse := F2_set p m j hlt2
          obtain ⟨y, hy⟩ : ∃ y, m / (2 : Int) ^ (8 * j) = y := ⟨_, rfl⟩
          rw [hy] at hd hst hse ⊢
          obtain ⟨y0, y1⟩ := hd
          have HST := Lib.hid hst
          have HSE := Lib.hid hse
          have hat := own_at HO.out ((247 : Int) - (j : Int)) (by omega) (by omega)
          have e1 : ((247 : Int) - (j : Int)).toNat = 247 - j := by clear hst hse HST HSE; omega
          rw [e1] at hat
          have ea : wr.cell? ⟨w.heap.size, 247 - j, none⟩ = some (.int .u8 (rd (tab 256 (F2 p m j)) ((247 : Int) - (j : Int)))) := hat.1
          have eb : wr.frozen? ⟨w.heap.size, 247 - j, none⟩ = false := hat.2
          have hos := own_store HO.out ((247 : Int) - (j : Int)) (y % 256)
          rw [e1] at hos
          have HOS := Lib.hid hos.1
          clear hat hy hst hse hos
          go_wp2_with fail
          go_roundw
          case rel =>
            refine ⟨j + 1, by omega, congrArg (Value.int .i64) (by clear HST HSE HOS; omega), ?_, ?_, HB.out.setCell (Nat.le_refl _) _⟩
            · rw [HST.out]
            · rw [← HSE.out]
              exact HOS.out
          case measure => simp [intOf]; omega
        · obtain rfl : j = 8 := by omega
          have hat := own_at HO.out (251 : Int) (by omega) (by omega)
          have ea : wr.cell? ⟨w.heap.size, 251, none⟩ = some (.int .u8 (rd (tab 256 (F2 p m 8)) 251)) := hat.1
          have eb : wr.frozen? ⟨w.heap.size, 251, none⟩ = false := hat.2
          have hos := (own_store HO.out (251 : Int) kind).1
          have he := F2_end p at_ kind s h0 h1
          rw [HM.out] at he
          rw [show (251 : Int).toNat = 251 from rfl, he] at hos
          have HO2 := Lib.hid hos
          have hb2 : Below w.heap.size w (wr.setCell ⟨w.heap.size, 251, none⟩ (.int .u8 kind)) := HB.out.setCell (Nat.le_refl _) _
          have HB2 := Lib.hid hb2
          have R2 := Lib.hid ((reads_of_own hos (tab_length _ _) rfl).take_ 252 (by omega))
          rw [F4_take p at_ kind s (by omega)] at R2
          clear hat hos he hb2
          go_wp2_with fail
          refine (rsum_at (s := s) _ R2.out HS.out).mono ?_; rintro e w' ⟨rfl, rfl⟩
          clear ea eb
          go_wp2_with fail
          go_loopw [12, 13] (fun v i wr => ∃ j : Nat, j ≤ 4 ∧ i = .int .i64 (255 - (j : Int)) ∧ v = .int .u32 (s / (2 : Int) ^ (8 * j)) ∧ wr.ownsRow w.heap.size 5 1 (.slice (some ⟨w.heap.size, 0, none⟩) 256 256) 256 (nums .u8 (tab 256 (F4 (headF p at_ kind) s j))) ∧ Below w.heap.size w wr) (fun _ i _ => (intOf i - 251).toNat)
          case atStart => exact ⟨0, by omega, by rfl, by simp, HO2.out, HB2.out⟩
          case round =>
            clear HO HB R2 HO2 HB2
            obtain ⟨j, hj, rfl, rfl, ho, hb⟩ := hrel
            have HO := Lib.hid ho
            have HB := Lib.hid hb
            clear ho hb
            by_cases hlt2 : j < 4
            · have hd := div_bound s j 4294967296 s0 s1
              have hst := div_step s j
              have hse := F4_set (headF p at_ kind) s j hlt2
              obtain ⟨y, hy⟩ : ∃ y, s / (2 : Int) ^ (8 * j) = y := ⟨_, rfl⟩
              rw [hy] at hd hst hse ⊢
              obtain ⟨y0, y1⟩ := hd
              have HST := Lib.hid hst
              have HSE := Lib.hid hse
              have hat := own_at HO.out ((255 : Int) - (j : Int)) (by omega) (by omega)
              have e1 : ((255 : Int) - (j : Int)).toNat = 255 - j := by clear hst hse HST HSE; omega
              rw [e1] at hat
              have ea : wr.cell? ⟨w.heap.size, 255 - j, none⟩ = some (.int .u8 (rd (tab 256 (F4 (headF p at_ kind) s j)) ((255 : Int) - (j : Int)))) := hat.1
              have eb : wr.frozen? ⟨w.heap.size, 255 - j, none⟩ = false := hat.2
              have hos := own_store HO.out ((255 : Int) - (j : Int)) (y % 256)
              rw [e1] at hos
              have HOS := Lib.hid hos.1
              clear hat hy hst hse hos
              go_wp2_with fail
              go_roundw
              case rel =>
                refine ⟨j + 1, by omega, congrArg (Value.int .i64) (by clear HST HSE HOS; omega), ?_, ?_, HB.out.setCell (Nat.le_refl _) _⟩
                · rw [HST.out]
                · rw [← HSE.out]
                  exact HOS.out
              case measure => simp [intOf]; omega
            · obtain rfl : j = 4 := by omega
              go_wp2_with fail
              go_ret2
              refine ⟨_, _, rfl, ?_, HB.out⟩
              rw [← F4_end p at_ kind (by omega), HS.out]
              exact HO.out
end Go.Proofs.Ytilmjclfgjigeaa.Stp
