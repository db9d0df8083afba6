/- The walk of the law SuperKnown: the call returns true, nothing that was there is changed. -/
import Derived.Test.YtnnclfaibcedoaaSupS
set_option linter.unusedVariables false
set_option linter.unusedSimpArgs false
namespace Go.Proofs.Ytnnclfaibcedoaa.Sup
open Go Go.RowKit Go.Proofs.YtnnclfaibcedoaaW.PrintWords Go.Proofs.YtnnclfaibcedoaaW.PrintLast Go.Proofs.YtnnclfaibcedoaaW.PrintMore Base Odr

theorem known_c : takeE (F0.set 63 3) = 23 ∧ takeE (F0.set 40 1) = 23 ∧ takeE (F0.take 63) = 4 ∧ takeE (F0 ++ [0]) = 3 := by decide +kernel
theorem set_wf {xs : List Int} (h : ∀ x ∈ xs, (Lit.int .u8 x).wf = true) (i : Nat) (y : Int) (hy : (Lit.int .u8 y).wf = true) : ∀ x ∈ xs.set i y, (Lit.int .u8 x).wf = true := by
  intro x hx
  rcases List.mem_or_eq_of_mem_set hx with h1 | h1
  · exact h x h1
  · rw [h1]; exact hy
theorem take_no {er : Int} (b : List Int) {A : Option Addr} {n c : Nat} (w : World) (HR : ReadsInt w .u8 A n b) (hw : ∀ x ∈ b, (Lit.int .u8 x).wf = true) (hc : n ≤ c) (he : takeE b = er) (h0 : er ≠ 0) :
    Calls Try.prog 14 #[.slice A n c] w fun e w' => e = .returned (.tuple #[.agg #[.int .u64 0, .int .i64 0, .int .u64 0, .int .u64 0], .int .i64 er]) ∧ Below w.heap.size w w' := by
  have hS : ∀ i, takeS b i = 0 := fun i => if_neg (by rw [he]; exact h0)
  exact take_at b w HR hw hc (hS 0) (hS 1) (hS 2) (hS 3) he
set_option maxRecDepth 100000 in
set_option maxHeartbeats 3200000 in
theorem known_walk (w : World) : Calls Try.prog 5 #[] w fun e w' => e = .returned (.bool true) ∧ Below w.heap.size w w' := by
  have hm : may 1 16 0 1 = true := by decide +kernel
  have HM := Lib.hid hm
  clear hm
  go_enter Try.func5, Try.ntmps5
  go_wp2_with fail
  refine (put_ok 1 16 0 1 _ HM.out).mono ?_
  rintro e w1 ⟨A1, c1, rfl, ho, hb⟩
  have O1 := Lib.hid (show w1.ownsRow w.heap.size 5 1 (.slice A1 64 c1) 64 (nums .u8 F0) from ho)
  have R1 := Lib.hid (reads_of_own O1.out F0_len rfl)
  have HC1 := Lib.hid (own_cap ho)
  have B1 := Lib.hid hb
  clear ho hb
  go_wp2_with (at_builtin; refine print_append_row (w0 := w1) w1.heap.size rfl _ _ 22 5 .u8 1 rfl Try.underlying22 info8 (by omega) (.slice (some ⟨w1.heap.size, 0, none⟩) 0 0) [] F0 A1 64 c1 rfl rfl (own_lit w1 w1.heap.size 5 .u8 [] (Nat.le_refl _) (by simp)) (ReadsInt.below R1.out ((Below.refl _ _).alloc (Nat.le_refl _) _)) ((Below.refl _ _).alloc (Nat.le_refl _) _) (by simp) (by simp) ?_)
  intro v2 w2 hown hb hg hat
  rw [F0_len] at hown
  obtain ⟨g2, c2, rfl, hg2, -⟩ := hown.form (by omega)
  have O2 := Lib.hid hown
  have R2 := Lib.hid (ReadsInt.below R1.out hb)
  have P2 := Lib.hid (pw_own_below O1.out hb)
  have B2 := Lib.hid (below_then B1.out B1.out.size hb)
  have D2 := Lib.hid hb
  clear hown hb hg hat
  go_wp2_with (at_builtin; refine print_append_row (w0 := w2) w2.heap.size rfl _ _ 22 5 .u8 1 rfl Try.underlying22 info8 (by omega) (.slice (some ⟨w2.heap.size, 0, none⟩) 0 0) [] F0 A1 64 c1 rfl rfl (own_lit w2 w2.heap.size 5 .u8 [] (Nat.le_refl _) (by simp)) (ReadsInt.below R2.out ((Below.refl _ _).alloc (Nat.le_refl _) _)) ((Below.refl _ _).alloc (Nat.le_refl _) _) (by simp) (by simp) ?_)
  intro v3 w3 hown hb hg hat
  rw [F0_len] at hown
  obtain ⟨g3, c3, rfl, hg3, -⟩ := hown.form (by omega)
  have hne : g2 ≠ g3 := by
    have := own_lt O2.out g2 rfl
    omega
  have O3 := Lib.hid hown
  have Q3 := Lib.hid (pw_own_below O2.out hb)
  have P3 := Lib.hid (pw_own_below P2.out hb)
  have B3 := Lib.hid (below_then B2.out B2.out.size hb)
  have D3 := Lib.hid (below_then D2.out D2.out.size hb)
  clear hown hb hg hat
  go_wp2_with fail
  refine (awake_any _).mono ?_; rintro e w4 ⟨rfl, hb⟩
  have O4 := Lib.hid (pw_own_below O3.out hb)
  have Q4 := Lib.hid (pw_own_below Q3.out hb)
  have P4 := Lib.hid (pw_own_below P3.out hb)
  have B4 := Lib.hid (below_then B3.out B3.out.size hb)
  have D4 := Lib.hid (below_then D3.out D3.out.size hb)
  clear hb
  obtain ⟨a2, f2⟩ := own_at Q4.out 63 (by omega) (by omega)
  obtain ⟨a3, f3⟩ := own_at O4.out 40 (by omega) (by omega)
  have a2' : w4.cell? ⟨g2, 63, none⟩ = some (.int .u8 1) := a2
  have f2' : w4.frozen? ⟨g2, 63, none⟩ = false := f2
  have a3' : (w4.setCell ⟨g2, 63, none⟩ (.int .u8 3)).cell? ⟨g3, 40, none⟩ = some (.int .u8 0) := (World.cell?_setCell_far _ _ _ _ (by exact hne)).trans a3
  have f3' : (w4.setCell ⟨g2, 63, none⟩ (.int .u8 3)).frozen? ⟨g3, 40, none⟩ = false := by rw [World.frozen?_setCell]; exact f3
  have o5 := own_setCell (own_store Q4.out 63 3).1 (p := ⟨g3, 40, none⟩) (by intro h; injection h with h; exact hne (show g2 = g3 from h.symm)) (.int .u8 1)
  have q5 := (own_store (own_setCell O4.out (p := ⟨g2, 63, none⟩) (by intro h; injection h with h; exact hne (show g2 = g3 from h)) (.int .u8 3)) 40 1).1
  have d5 : Below w1.heap.size w1 ((w4.setCell ⟨g2, 63, none⟩ (.int .u8 3)).setCell ⟨g3, 40, none⟩ (.int .u8 1)) := (D4.out.setCell hg2 _).setCell (Nat.le_trans D2.out.size hg3) _
  have C5 := Lib.hid (reads_of_own (xs := F0.set 63 3) o5 (by rw [List.length_set]; exact F0_len) rfl)
  have E5 := Lib.hid (reads_of_own (xs := F0.set 40 1) q5 (by rw [List.length_set]; exact F0_len) rfl)
  have P5 := Lib.hid (pw_own_below O1.out d5)
  have D5 := Lib.hid d5
  have HC2 := Lib.hid (own_cap Q4.out)
  have HC3 := Lib.hid (own_cap O4.out)
  clear o5 q5 d5
  go_wp2_with fail
  clear a2 a3 f2 f3 a2' a3' f2' f3'
  refine (take_no (F0.set 63 3) _ C5.out (set_wf (formL_wf _ _ _ _) _ _ rfl) HC2.out known_c.1 (by decide)).mono ?_; rintro e w6 ⟨rfl, hb⟩
  have E6 := Lib.hid (ReadsInt.below E5.out (hb.alloc hb.size (.cells #[.int .u64 0, .int .i64 0, .int .u64 0, .int .u64 0] 25)))
  have D6 := Lib.hid ((below_then D5.out D5.out.size hb).alloc (below_then D5.out D5.out.size hb).size (.cells #[.int .u64 0, .int .i64 0, .int .u64 0, .int .u64 0] 25))
  clear hb
  go_wp2_with fail
  refine (take_no (F0.set 40 1) _ E6.out (set_wf (formL_wf _ _ _ _) _ _ rfl) HC3.out known_c.2.1 (by decide)).mono ?_; rintro e w7 ⟨rfl, hb⟩
  have D7 := Lib.hid ((below_then D6.out D6.out.size hb).alloc (below_then D6.out D6.out.size hb).size (.cells #[.int .u64 0, .int .i64 0, .int .u64 0, .int .u64 0] 25))
  have R7 := Lib.hid ((ReadsInt.below R1.out D7.out).take_ 63 (by omega))
  clear hb
  have h63 : 63 ≤ c1 := by have := HC1.out; omega
  go_wp2_with fail
  refine (take_no (F0.take 63) _ R7.out (fun x hx => formL_wf _ _ _ _ x (List.mem_of_mem_take hx)) h63 known_c.2.2.1 (by decide)).mono ?_; rintro e w8 ⟨rfl, hb⟩
  have D8 := Lib.hid ((below_then D7.out D7.out.size hb).alloc (below_then D7.out D7.out.size hb).size (.cells #[.int .u64 0, .int .i64 0, .int .u64 0, .int .u64 0] 25))
  have P8 := Lib.hid (pw_own_below O1.out D8.out)
  clear hb
  have B8 := Lib.hid (below_then B1.out B1.out.size D8.out)
  have hp8 : (w8.alloc (.cells #[.int .u64 0, .int .i64 0, .int .u64 0, .int .u64 0] 25)).ownsRow w.heap.size 5 1 (.slice A1 64 c1) F0.length (nums .u8 F0) := by rw [F0_len]; exact P8.out
  have HP8 := Lib.hid hp8
  clear hp8
  have HLN := Lib.hid (show (F0.length + 1) * 1 ≤ 140737488355328 by rw [F0_len]; omega)
  go_wp2_with (at_builtin; refine print_append_num (w0 := w) (W := w8.alloc (.cells #[.int .u64 0, .int .i64 0, .int .u64 0, .int .u64 0] 25)) w.heap.size rfl (.tmp 51) (.tmp 52) 22 5 .u8 1 rfl Try.underlying22 info8 (by omega) (.slice A1 64 c1) F0 0 rfl (by simp [Act.eval, Act.put]) HP8.out B8.out B8.out.size HLN.out ?_)
  intro v9 w9 hown hb9 hg hat
  have hown' : w9.ownsRow w.heap.size 5 1 v9 65 (nums .u8 (F0 ++ [0])) := by rw [F0_len] at hown; exact hown
  obtain ⟨A9, c9, rfl⟩ := own_slice hown'
  have Q9 := Lib.hid (reads_of_own hown' (by rw [List.length_append, F0_len]; rfl) rfl)
  have HC9 := Lib.hid (own_cap hown')
  have B9 := Lib.hid hb9
  clear hown hown' hb9 hg hat
  go_wp2_with fail
  refine (take_no (F0 ++ [0]) _ Q9.out (fun x hx => by rcases List.mem_append.1 hx with h | h; exact formL_wf _ _ _ _ x h; simp at h; rw [h]; rfl) HC9.out known_c.2.2.2 (by decide)).mono ?_; rintro e w10 ⟨rfl, hb⟩
  have B10 := Lib.hid ((below_then B9.out B9.out.size hb).alloc (below_then B9.out B9.out.size hb).size (.cells #[.int .u64 0, .int .i64 0, .int .u64 0, .int .u64 0] 25))
  clear hb
  go_wp2_with fail
  obtain ⟨w11, hw11⟩ : ∃ w11, (w10.alloc (.cells #[.int .u64 0, .int .i64 0, .int .u64 0, .int .u64 0] 25)).alloc (.cells #[.int .u64 0, .int .i64 16, .int .u64 0, .int .u64 1, .int .u64 4611686018427387904, .int .i64 16, .int .u64 0, .int .u64 1, .int .u64 1, .int .i64 15, .int .u64 0, .int .u64 1, .int .u64 1, .int .i64 1025, .int .u64 0, .int .u64 1, .int .u64 1, .int .i64 16, .int .u64 16, .int .u64 1, .int .u64 1, .int .i64 16, .int .u64 0, .int .u64 0, .int .u64 1, .int .i64 16, .int .u64 0, .int .u64 4611686018427387904] 25) = w11 := ⟨_, rfl⟩
  obtain ⟨gT, hgT⟩ : ∃ gT, w10.heap.size + 1 = gT := ⟨_, rfl⟩
  have t11 : w11.heap[gT]? = some (.cells #[.int .u64 0, .int .i64 16, .int .u64 0, .int .u64 1, .int .u64 4611686018427387904, .int .i64 16, .int .u64 0, .int .u64 1, .int .u64 1, .int .i64 15, .int .u64 0, .int .u64 1, .int .u64 1, .int .i64 1025, .int .u64 0, .int .u64 1, .int .u64 1, .int .i64 16, .int .u64 16, .int .u64 1, .int .u64 1, .int .i64 16, .int .u64 0, .int .u64 0, .int .u64 1, .int .i64 16, .int .u64 0, .int .u64 4611686018427387904] 25) := by
    rw [← hw11, ← hgT]
    have h := heap_alloc_new (w10.alloc (.cells #[.int .u64 0, .int .i64 0, .int .u64 0, .int .u64 0] 25)) (.cells #[.int .u64 0, .int .i64 16, .int .u64 0, .int .u64 1, .int .u64 4611686018427387904, .int .i64 16, .int .u64 0, .int .u64 1, .int .u64 1, .int .i64 15, .int .u64 0, .int .u64 1, .int .u64 1, .int .i64 1025, .int .u64 0, .int .u64 1, .int .u64 1, .int .i64 16, .int .u64 16, .int .u64 1, .int .u64 1, .int .i64 16, .int .u64 0, .int .u64 0, .int .u64 1, .int .i64 16, .int .u64 0, .int .u64 4611686018427387904] 25)
    rwa [show (w10.alloc (.cells #[.int .u64 0, .int .i64 0, .int .u64 0, .int .u64 0] 25)).heap.size = w10.heap.size + 1 from World.size_alloc _ _] at h
  have b11 : Below w.heap.size w w11 := by rw [← hw11]; exact B10.out.alloc B10.out.size _
  have T11 := Lib.hid t11
  have B11 := Lib.hid b11
  clear t11 b11
  simp only [hw11, hgT]
  clear hw11 hgT
  go_loopw [66] (fun i wr => ∃ k : Nat, k ≤ 7 ∧ i = .int .i64 (k : Int) ∧ wr.heap[gT]? = some (.cells #[.int .u64 0, .int .i64 16, .int .u64 0, .int .u64 1, .int .u64 4611686018427387904, .int .i64 16, .int .u64 0, .int .u64 1, .int .u64 1, .int .i64 15, .int .u64 0, .int .u64 1, .int .u64 1, .int .i64 1025, .int .u64 0, .int .u64 1, .int .u64 1, .int .i64 16, .int .u64 16, .int .u64 1, .int .u64 1, .int .i64 16, .int .u64 0, .int .u64 0, .int .u64 1, .int .i64 16, .int .u64 0, .int .u64 4611686018427387904] 25) ∧ Below w.heap.size w wr) (fun i _ => 7 - (intOf i).toNat)
  case atStart => exact ⟨0, by omega, rfl, T11.out, B11.out⟩
  case round =>
    obtain ⟨k, hk, rfl, hT, hB⟩ := hrel
    have HT := Lib.hid hT
    have BT := Lib.hid hB
    clear hT hB T11 B11 HM O1 R1 HC1 B1 O2 R2 P2 B2 D2 O3 Q3 P3 B3 D3 O4 Q4 P4 B4 D4 C5 E5 P5 D5 HC2 HC3 E6 D6 D7 R7 D8 P8 B8
    by_cases hlt : k < 7
    · have hk7 : k = 0 ∨ k = 1 ∨ k = 2 ∨ k = 3 ∨ k = 4 ∨ k = 5 ∨ k = 6 := by omega
      clear hk hlt
      rcases hk7 with rfl | rfl | rfl | rfl | rfl | rfl | rfl
      · have f0 : wr.cell? ⟨gT, 0, none⟩ = some (.int .u64 0) := cell_row HT.out rfl
        have f1 : wr.cell? ⟨gT, 1, none⟩ = some (.int .i64 16) := cell_row HT.out rfl
        have f2 : wr.cell? ⟨gT, 2, none⟩ = some (.int .u64 0) := cell_row HT.out rfl
        have f3 : wr.cell? ⟨gT, 3, none⟩ = some (.int .u64 1) := cell_row HT.out rfl
        have HM2 := Lib.hid (show may 0 16 0 1 = false by decide +kernel)
        go_wp2_with fail
        refine (may_at _ HM2.out).mono ?_; rintro e w12 ⟨rfl, hb⟩
        clear f0 f1 f2 f3
        have T12 := Lib.hid (keep_row (alloc_row HT.out (.cells #[.int .u64 0, .int .i64 16, .int .u64 0, .int .u64 1] 25)) hb)
        have B12 := Lib.hid (below_then (BT.out.alloc BT.out.size (.cells #[.int .u64 0, .int .i64 16, .int .u64 0, .int .u64 1] 25)) (BT.out.alloc BT.out.size (.cells #[.int .u64 0, .int .i64 16, .int .u64 0, .int .u64 1] 25)).size hb)
        clear hb
        go_wp2_with fail
        go_roundw
        case rel => exact ⟨1, by omega, rfl, T12.out, B12.out⟩
        case measure => simp [intOf]
      · have f0 : wr.cell? ⟨gT, 4, none⟩ = some (.int .u64 4611686018427387904) := cell_row HT.out rfl
        have f1 : wr.cell? ⟨gT, 5, none⟩ = some (.int .i64 16) := cell_row HT.out rfl
        have f2 : wr.cell? ⟨gT, 6, none⟩ = some (.int .u64 0) := cell_row HT.out rfl
        have f3 : wr.cell? ⟨gT, 7, none⟩ = some (.int .u64 1) := cell_row HT.out rfl
        have HM2 := Lib.hid (show may 4611686018427387904 16 0 1 = false by decide +kernel)
        go_wp2_with fail
        refine (may_at _ HM2.out).mono ?_; rintro e w12 ⟨rfl, hb⟩
        clear f0 f1 f2 f3
        have T12 := Lib.hid (keep_row (alloc_row HT.out (.cells #[.int .u64 4611686018427387904, .int .i64 16, .int .u64 0, .int .u64 1] 25)) hb)
        have B12 := Lib.hid (below_then (BT.out.alloc BT.out.size (.cells #[.int .u64 4611686018427387904, .int .i64 16, .int .u64 0, .int .u64 1] 25)) (BT.out.alloc BT.out.size (.cells #[.int .u64 4611686018427387904, .int .i64 16, .int .u64 0, .int .u64 1] 25)).size hb)
        clear hb
        go_wp2_with fail
        go_roundw
        case rel => exact ⟨2, by omega, rfl, T12.out, B12.out⟩
        case measure => simp [intOf]
      · have f0 : wr.cell? ⟨gT, 8, none⟩ = some (.int .u64 1) := cell_row HT.out rfl
        have f1 : wr.cell? ⟨gT, 9, none⟩ = some (.int .i64 15) := cell_row HT.out rfl
        have f2 : wr.cell? ⟨gT, 10, none⟩ = some (.int .u64 0) := cell_row HT.out rfl
        have f3 : wr.cell? ⟨gT, 11, none⟩ = some (.int .u64 1) := cell_row HT.out rfl
        have HM2 := Lib.hid (show may 1 15 0 1 = false by decide +kernel)
        go_wp2_with fail
        refine (may_at _ HM2.out).mono ?_; rintro e w12 ⟨rfl, hb⟩
        clear f0 f1 f2 f3
        have T12 := Lib.hid (keep_row (alloc_row HT.out (.cells #[.int .u64 1, .int .i64 15, .int .u64 0, .int .u64 1] 25)) hb)
        have B12 := Lib.hid (below_then (BT.out.alloc BT.out.size (.cells #[.int .u64 1, .int .i64 15, .int .u64 0, .int .u64 1] 25)) (BT.out.alloc BT.out.size (.cells #[.int .u64 1, .int .i64 15, .int .u64 0, .int .u64 1] 25)).size hb)
        clear hb
        go_wp2_with fail
        go_roundw
        case rel => exact ⟨3, by omega, rfl, T12.out, B12.out⟩
        case measure => simp [intOf]
      · have f0 : wr.cell? ⟨gT, 12, none⟩ = some (.int .u64 1) := cell_row HT.out rfl
        have f1 : wr.cell? ⟨gT, 13, none⟩ = some (.int .i64 1025) := cell_row HT.out rfl
        have f2 : wr.cell? ⟨gT, 14, none⟩ = some (.int .u64 0) := cell_row HT.out rfl
        have f3 : wr.cell? ⟨gT, 15, none⟩ = some (.int .u64 1) := cell_row HT.out rfl
        have HM2 := Lib.hid (show may 1 1025 0 1 = false by decide +kernel)
        go_wp2_with fail
        refine (may_at _ HM2.out).mono ?_; rintro e w12 ⟨rfl, hb⟩
        clear f0 f1 f2 f3
        have T12 := Lib.hid (keep_row (alloc_row HT.out (.cells #[.int .u64 1, .int .i64 1025, .int .u64 0, .int .u64 1] 25)) hb)
        have B12 := Lib.hid (below_then (BT.out.alloc BT.out.size (.cells #[.int .u64 1, .int .i64 1025, .int .u64 0, .int .u64 1] 25)) (BT.out.alloc BT.out.size (.cells #[.int .u64 1, .int .i64 1025, .int .u64 0, .int .u64 1] 25)).size hb)
        clear hb
        go_wp2_with fail
        go_roundw
        case rel => exact ⟨4, by omega, rfl, T12.out, B12.out⟩
        case measure => simp [intOf]
      · have f0 : wr.cell? ⟨gT, 16, none⟩ = some (.int .u64 1) := cell_row HT.out rfl
        have f1 : wr.cell? ⟨gT, 17, none⟩ = some (.int .i64 16) := cell_row HT.out rfl
        have f2 : wr.cell? ⟨gT, 18, none⟩ = some (.int .u64 16) := cell_row HT.out rfl
        have f3 : wr.cell? ⟨gT, 19, none⟩ = some (.int .u64 1) := cell_row HT.out rfl
        have HM2 := Lib.hid (show may 1 16 16 1 = false by decide +kernel)
        go_wp2_with fail
        refine (may_at _ HM2.out).mono ?_; rintro e w12 ⟨rfl, hb⟩
        clear f0 f1 f2 f3
        have T12 := Lib.hid (keep_row (alloc_row HT.out (.cells #[.int .u64 1, .int .i64 16, .int .u64 16, .int .u64 1] 25)) hb)
        have B12 := Lib.hid (below_then (BT.out.alloc BT.out.size (.cells #[.int .u64 1, .int .i64 16, .int .u64 16, .int .u64 1] 25)) (BT.out.alloc BT.out.size (.cells #[.int .u64 1, .int .i64 16, .int .u64 16, .int .u64 1] 25)).size hb)
        clear hb
        go_wp2_with fail
        go_roundw
        case rel => exact ⟨5, by omega, rfl, T12.out, B12.out⟩
        case measure => simp [intOf]
      · have f0 : wr.cell? ⟨gT, 20, none⟩ = some (.int .u64 1) := cell_row HT.out rfl
        have f1 : wr.cell? ⟨gT, 21, none⟩ = some (.int .i64 16) := cell_row HT.out rfl
        have f2 : wr.cell? ⟨gT, 22, none⟩ = some (.int .u64 0) := cell_row HT.out rfl
        have f3 : wr.cell? ⟨gT, 23, none⟩ = some (.int .u64 0) := cell_row HT.out rfl
        have HM2 := Lib.hid (show may 1 16 0 0 = false by decide +kernel)
        go_wp2_with fail
        refine (may_at _ HM2.out).mono ?_; rintro e w12 ⟨rfl, hb⟩
        clear f0 f1 f2 f3
        have T12 := Lib.hid (keep_row (alloc_row HT.out (.cells #[.int .u64 1, .int .i64 16, .int .u64 0, .int .u64 0] 25)) hb)
        have B12 := Lib.hid (below_then (BT.out.alloc BT.out.size (.cells #[.int .u64 1, .int .i64 16, .int .u64 0, .int .u64 0] 25)) (BT.out.alloc BT.out.size (.cells #[.int .u64 1, .int .i64 16, .int .u64 0, .int .u64 0] 25)).size hb)
        clear hb
        go_wp2_with fail
        go_roundw
        case rel => exact ⟨6, by omega, rfl, T12.out, B12.out⟩
        case measure => simp [intOf]
      · have f0 : wr.cell? ⟨gT, 24, none⟩ = some (.int .u64 1) := cell_row HT.out rfl
        have f1 : wr.cell? ⟨gT, 25, none⟩ = some (.int .i64 16) := cell_row HT.out rfl
        have f2 : wr.cell? ⟨gT, 26, none⟩ = some (.int .u64 0) := cell_row HT.out rfl
        have f3 : wr.cell? ⟨gT, 27, none⟩ = some (.int .u64 4611686018427387904) := cell_row HT.out rfl
        have HM2 := Lib.hid (show may 1 16 0 4611686018427387904 = false by decide +kernel)
        go_wp2_with fail
        refine (may_at _ HM2.out).mono ?_; rintro e w12 ⟨rfl, hb⟩
        clear f0 f1 f2 f3
        have T12 := Lib.hid (keep_row (alloc_row HT.out (.cells #[.int .u64 1, .int .i64 16, .int .u64 0, .int .u64 4611686018427387904] 25)) hb)
        have B12 := Lib.hid (below_then (BT.out.alloc BT.out.size (.cells #[.int .u64 1, .int .i64 16, .int .u64 0, .int .u64 4611686018427387904] 25)) (BT.out.alloc BT.out.size (.cells #[.int .u64 1, .int .i64 16, .int .u64 0, .int .u64 4611686018427387904] 25)).size hb)
        clear hb
        go_wp2_with fail
        go_roundw
        case rel => exact ⟨7, by omega, rfl, T12.out, B12.out⟩
        case measure => simp [intOf]
    · obtain rfl : k = 7 := by omega
      clear hk hlt
      go_wp2_with fail
      refine (may_at (b := true) _ (by decide +kernel)).mono ?_; rintro e w12 ⟨rfl, hb⟩
      have B12 := Lib.hid (below_then BT.out BT.out.size hb)
      clear hb
      go_wp2_with fail
      go_ret
      exact ⟨rfl, B12.out⟩
end Go.Proofs.Ytnnclfaibcedoaa.Sup
