/- What the document's examples say (awake), by its contract. -/
import Derived.Test.YtdekplalhfpooaaNodJ
set_option linter.unusedVariables false
set_option linter.unusedSimpArgs false
namespace Go.Proofs.Ytdekplalhfpooaa.Nod
open Go Go.RowKit Go.Proofs.YtdekplalhfpooaaW.PrintWords Go.Proofs.YtdekplalhfpooaaW.PrintLast Go.Proofs.YtdekplalhfpooaaW.PrintMore Base Odr Hlp

set_option maxRecDepth 100000 in
set_option maxHeartbeats 6400000 in
theorem awake_any (w : World) : Calls Try.prog 31 #[] w fun e w' => e = .returned (.bool true) ∧ Below w.heap.size w w' := by
  obtain ⟨w1, hw1, b1, f1, s1⟩ := made w #[.int .u64 5] 25
  obtain ⟨w2, hw2, b2, f2, s2⟩ := made w1 #[.int .u64 7] 25
  obtain ⟨w3, hw3, b3, f3, s3⟩ := made w2 #[.bool false, .slice none 0 0, .slice none 0 0] 24
  obtain ⟨w4, hw4⟩ : ∃ w4, w3.setRow w2.heap.size #[.bool true, .slice (some ⟨w.heap.size, 0, none⟩) 1 1, .slice (some ⟨w1.heap.size, 0, none⟩) 1 1] = w4 := ⟨_, rfl⟩
  have F3 := Lib.hid f3
  have L4 := Lib.hid (show w4.heap[w2.heap.size]? = some (.cells #[.bool true, .slice (some ⟨w.heap.size, 0, none⟩) 1 1, .slice (some ⟨w1.heap.size, 0, none⟩) 1 1] 24) by rw [← hw4]; exact setRow_heap _ _ _ _ _ _ f3)
  have S0 := Lib.hid (show w1.heap.size = w.heap.size + 1 ∧ w2.heap.size = w.heap.size + 2 ∧ w3.heap.size = w.heap.size + 3 ∧ w4.heap.size = w.heap.size + 3 by rw [← hw4]; simp only [World.setRow, Array.size_modify]; omega)
  have B4 := Lib.hid (show Below w.heap.size w w4 by rw [← hw4]; exact below_setRow (below_then (below_then b1 b1.size b2) (below_then b1 b1.size b2).size b3) (by omega) _)
  have K4 := Lib.hid (show ReadsInt w4 .u64 (some ⟨w.heap.size, 0, none⟩) 1 [5] from row_reads (e := 25) (fr := (0, 0)) (k := .u64) (xs := [5]) (by rw [← hw4, setRow_other _ _ _ _ (by omega)]; exact keep_row (keep_row f1 b2) b3) (by simp))
  have V4 := Lib.hid (show ReadsInt w4 .u64 (some ⟨w1.heap.size, 0, none⟩) 1 [7] from row_reads (e := 25) (fr := (0, 0)) (k := .u64) (xs := [7]) (by rw [← hw4, setRow_other _ _ _ _ (by omega)]; exact keep_row f2 b3) (by simp))
  clear b1 f1 s1 b2 f2 s2 b3 f3 s3
  go_enter Try.func31, Try.ntmps31
  go_wp2_with (first | ((with_reducible refine wpList_store_row rfl 24 (.tmp 1) (.tmp 11) rfl w2.heap.size #[.bool true, .slice (some ⟨w.heap.size, 0, none⟩) 1 1, .slice (some ⟨w1.heap.size, 0, none⟩) 1 1] ?_ ?_ 24 _ F3.out (size3 _ _ _) ?_ (one3 _ _ _ _ _ _ _) ?_); rfl; rfl; rfl; rw [hw4]) | ((with_reducible refine wpList_load_row rfl 24 (.tmp 1) rfl w2.heap.size ?_ 24 _ _ _ L4.out Try.underlying24 ?_ (size3 _ _ _) ?_); rfl; rfl))
  refine (put_at true _ K4.out V4.out F57_may rfl F57_form).mono ?_; rintro e w5 ⟨A5, c5, rfl, ho, hb⟩
  obtain ⟨g5, c5', he, hg5, -⟩ := ho.form (by omega)
  injection he with he1 he2 he3
  subst he1; subst he3
  have O5 := Lib.hid ho
  have D5 := Lib.hid hb
  have G5 := Lib.hid (show w4.heap.size ≤ g5 ∧ g5 < w5.heap.size from ⟨hg5, own_lt ho g5 rfl⟩)
  clear ho hb hg5 hw4
  obtain ⟨w6, hw6, b6, f6, s6⟩ := made w5 #[.int .u8 1, .int .u8 1, .int .u8 0, .int .u8 0, .int .u8 0, .int .u8 0, .int .u8 0, .int .u8 0, .int .u8 0, .int .u8 5] 5
  obtain ⟨w7, hw7, b7, f7, s7⟩ := made w6 #[.int .u8 0, .int .u8 0, .int .u8 0, .int .u8 0, .int .u8 0, .int .u8 0, .int .u8 0, .int .u8 7] 5
  have o6 : w6.ownsRow w5.heap.size 5 1 (.slice (some ⟨w5.heap.size, 0, none⟩) 10 10) 10 (nums .u8 [1, 1, 0, 0, 0, 0, 0, 0, 0, 5]) := by rw [← hw6]; exact own_lit w5 w5.heap.size 5 .u8 [1, 1, 0, 0, 0, 0, 0, 0, 0, 5] (Nat.le_refl _) (by simp)
  have O7 := Lib.hid (pw_own_below o6 b7)
  have R7 := Lib.hid (show ReadsInt w7 .u8 (some ⟨w6.heap.size, 0, none⟩) 8 [0, 0, 0, 0, 0, 0, 0, 7] from row_reads (e := 5) (fr := (0, 0)) (k := .u8) (xs := [0, 0, 0, 0, 0, 0, 0, 7]) f7 (by simp))
  have D7 := Lib.hid (below_then b6 b6.size b7)
  clear b6 f6 s6 b7 f7 s7 o6
  go_wp2_with (at_builtin; refine print_append_row (w0 := w5) (W := w7) w5.heap.size rfl (.tmp 17) (.tmp 18) 41 5 .u8 1 rfl Try.underlying41 info8 (by omega) (.slice (some ⟨w5.heap.size, 0, none⟩) 10 10) [1, 1, 0, 0, 0, 0, 0, 0, 0, 5] [0, 0, 0, 0, 0, 0, 0, 7] (some ⟨w6.heap.size, 0, none⟩) 8 8 rfl rfl O7.out R7.out D7.out D7.out.size (by simp) ?_)
  intro v8 w8 hown hb hg hat
  have hown' : w8.ownsRow w5.heap.size 5 1 v8 18 (nums .u8 F57) := hown
  obtain ⟨g8, c8, rfl, hg8, -⟩ := hown'.form (by omega)
  have O8 := Lib.hid hown'
  have D8 := Lib.hid hb
  have G8 := Lib.hid (show w5.heap.size ≤ g8 ∧ g8 < w8.heap.size from ⟨hg8, own_lt hown' g8 rfl⟩)
  clear hown hown' hb hg hat hg8 hw6 hw7
  obtain ⟨w9, hw9, b9, f9, s9⟩ := made w8 #[.int .u8 0] 5
  have o9 : w9.ownsRow w4.heap.size 5 1 (.slice (some ⟨g5, 0, none⟩) 18 c5) 18 (nums .u8 F57) := pw_own_below (pw_own_below O5.out D8.out) b9
  have D9 := Lib.hid (below_then (below_then D5.out D5.out.size D8.out) (below_then D5.out D5.out.size D8.out).size b9)
  obtain ⟨A10, c10, w10, hr10, ho10, hg10, hR10⟩ := app_keep (c := 1) Try.underlying41 info8 o9 (show w9.cell? ⟨w8.heap.size, 0, none⟩ = some (.int .u8 0) from cell_row f9 rfl) (by omega) (by omega) D9.out.size
  have RX10 := Lib.hid hr10
  have Q10 := Lib.hid (reads_own_of ho10 (by rfl) rfl)
  have C10 := Lib.hid (own_cap ho10)
  have RB10 := Lib.hid hR10
  have D10 := Lib.hid (pw_below_grown D9.out _ D9.out.size hg10 (fun k hk => by injection hk with hk; rw [← hk]; exact G5.out.1))
  have O10 := Lib.hid (own_other (pw_own_below O8.out b9) hg10 (.inr (by show some g8 ≠ some g5; intro he; injection he with he; have := G5.out; have := G8.out; omega)))
  have Z10 := Lib.hid (show w5.heap.size ≤ w10.heap.size ∧ w8.heap.size ≤ w10.heap.size from ⟨Nat.le_trans (Nat.le_trans D8.out.size b9.size) hg10.size, Nat.le_trans b9.size hg10.size⟩)
  clear b9 f9 s9 o9 hr10 ho10 hg10 hR10
  go_wp2_with (at_builtin; refine wp_app rfl (.tmp 21) (.tmp 22) rfl rfl rfl RX10.out ?_)
  refine (take_at (F57 ++ [0]) _ Q10.out F57_wf0 C10.out F57_take0 rfl rfl).mono ?_; rintro e w11 ⟨A11, c11, A12, c12, rfl, ho1, ho2, -, hb⟩
  obtain ⟨w12, hw12, b12, f12, s12⟩ := made w11 #[.bool false, .slice none 0 0, .slice none 0 0] 24
  obtain ⟨w13, hw13⟩ : ∃ w13, w12.setRow w11.heap.size #[.bool true, .slice A11 1 c11, .slice A12 1 c12] = w13 := ⟨_, rfl⟩
  have b10_12 := below_then hb hb.size b12
  have D13' : Below w10.heap.size w10 w13 := by rw [← hw13]; exact below_setRow b10_12 hb.size _
  have M13 := Lib.hid (show w13.heap[w11.heap.size]? = some (.cells #[.bool true, .slice A11 1 c11, .slice A12 1 c12] 24) by rw [← hw13]; exact setRow_heap _ _ _ _ _ _ f12)
  have F12 := Lib.hid f12
  have S12 := Lib.hid (show w10.heap.size ≤ w11.heap.size ∧ w11.heap.size < w13.heap.size by refine ⟨hb.size, ?_⟩; rw [← hw13]; simp only [World.setRow, Array.size_modify]; omega)
  have MK13 := Lib.hid (show w13.ownsRow w10.heap.size 25 1 (.slice A11 1 c11) 1 (nums .u64 [5]) by rw [← hw13]; exact own_setRow (pw_own_below ho1 b12) (fun he => by have := own_lt ho1 _ he.symm; omega) _)
  have MV13 := Lib.hid (show w13.ownsRow w10.heap.size 25 1 (.slice A12 1 c12) 1 (nums .u64 [7]) by rw [← hw13]; exact own_setRow (pw_own_below ho2 b12) (fun he => by have := own_lt ho2 _ he.symm; omega) _)
  have RB13 := Lib.hid (ReadsInt.below RB10.out D13')
  have O13 := Lib.hid (pw_own_below O10.out D13')
  have D13 := Lib.hid (below_then D10.out D10.out.size D13')
  have E13 := Lib.hid D13'
  clear ho1 ho2 hb b12 f12 s12 b10_12 D13' RX10 Q10 C10 hw9
  obtain ⟨w14, hw14, b14, f14, s14⟩ := made w13 #[.int .u8 1] 5
  have D14 := below_then D13.out D13.out.size b14
  have z14 : w5.heap.size ≤ w14.heap.size := Nat.le_trans Z10.out.1 (Nat.le_trans E13.out.size b14.size)
  obtain ⟨A15, c15, w15, hr15, ho15, hg15, hR15⟩ := app_keep (c := 1) Try.underlying41 info8 (pw_own_below O13.out b14) (show w14.cell? ⟨w13.heap.size, 0, none⟩ = some (.int .u8 1) from cell_row f14 rfl) (by omega) (by omega) z14
  have RX15 := Lib.hid hr15
  have Q15 := Lib.hid (reads_own_of ho15 (by rfl) rfl)
  have C15 := Lib.hid (own_cap ho15)
  have RW15 := Lib.hid hR15
  have RB15 := Lib.hid (reads_grown (ReadsInt.below RB13.out b14) hg15 (by show g5 ≠ g8; have := G5.out; have := G8.out; omega))
  have D15 := Lib.hid (pw_below_grown D14 _ D14.size hg15 (fun k hk => by injection hk with hk; rw [← hk]; have := G5.out; have := G8.out; omega))
  have N8 := Lib.hid (show g8 < w10.heap.size from Nat.lt_of_lt_of_le G8.out.2 Z10.out.2)
  have M15 := Lib.hid (show w15.heap[w11.heap.size]? = some (.cells #[.bool true, .slice A11 1 c11, .slice A12 1 c12] 24) by
    rw [hg15.block _ (Nat.lt_of_lt_of_le S12.out.2 b14.size) (by intro he; injection he with he; have := N8.out; have := S12.out; omega)]; exact keep_row M13.out b14)
  have MK15 := Lib.hid (own_other (pw_own_below MK13.out b14) hg15 (by
    cases h : (Value.slice A11 1 c11).ownBlock with
    | none => exact .inl rfl
    | some p => exact .inr (by intro he; injection he with he; have := own_base MK13.out p h; have := N8.out; omega)))
  have MV15 := Lib.hid (own_other (pw_own_below MV13.out b14) hg15 (by
    cases h : (Value.slice A12 1 c12).ownBlock with
    | none => exact .inl rfl
    | some p => exact .inr (by intro he; injection he with he; have := own_base MV13.out p h; have := N8.out; omega)))
  clear b14 f14 s14 D14 z14 hr15 ho15 hg15 hR15
  go_wp2_with (first | (at_builtin; refine wp_app rfl (.tmp 28) (.tmp 29) rfl rfl rfl RX15.out ?_) | ((with_reducible refine wpList_store_row rfl 24 (.tmp 5) (.tmp 25) rfl w11.heap.size #[.bool true, .slice A11 1 c11, .slice A12 1 c12] ?_ ?_ 24 _ F12.out (size3 _ _ _) ?_ (one3 _ _ _ _ _ _ _) ?_); rfl; rfl; rfl; rw [hw13]))
  clear hw14 hw12 hw13
  refine (take_at (F57 ++ [1]) _ Q15.out F57_wf1 C15.out F57_take1 rfl rfl).mono ?_; rintro e w16 ⟨A13, c13, A14, c14, rfl, -, -, -, hb⟩
  obtain ⟨w17, hw17, b17, f17, s17⟩ := made w16 #[.bool false, .slice none 0 0, .slice none 0 0] 24
  obtain ⟨w18, hw18⟩ : ∃ w18, w17.setRow w16.heap.size #[.bool false, .slice A13 0 c13, .slice A14 0 c14] = w18 := ⟨_, rfl⟩
  have b18 : Below w15.heap.size w15 w18 := by rw [← hw18]; exact below_setRow (below_then hb hb.size b17) hb.size _
  have F17 := Lib.hid f17
  have D18 := Lib.hid (below_then D15.out D15.out.size b18)
  have RB18 := Lib.hid (ReadsInt.below RB15.out b18)
  have RW18 := Lib.hid (ReadsInt.below RW15.out b18)
  have M18 := Lib.hid (keep_row M15.out b18)
  have L18 := Lib.hid (show w18.heap[w2.heap.size]? = some (.cells #[.bool true, .slice (some ⟨w.heap.size, 0, none⟩) 1 1, .slice (some ⟨w1.heap.size, 0, none⟩) 1 1] 24) from keep_row L4.out D18.out)
  have K18 := Lib.hid (ReadsInt.below K4.out D18.out)
  have V18 := Lib.hid (ReadsInt.below V4.out D18.out)
  have MK18 := Lib.hid (reads_own_of (pw_own_below MK15.out b18) (by rfl) rfl)
  have MV18 := Lib.hid (reads_own_of (pw_own_below MV15.out b18) (by rfl) rfl)
  have B18 := Lib.hid (below_then B4.out B4.out.size D18.out)
  clear hb b17 f17 s17 b18 RB15 RW15 M15 MK15 MV15 RX15 Q15 C15
  go_wp2_with ((with_reducible refine wpList_store_row rfl 24 (.tmp 7) (.tmp 32) rfl w16.heap.size #[.bool false, .slice A13 0 c13, .slice A14 0 c14] ?_ ?_ 24 _ F17.out (size3 _ _ _) ?_ (one3 _ _ _ _ _ _ _) ?_); rfl; rfl; rfl; rw [hw18])
  clear hw18 hw17
  refine (equal_same F57 _ RB18.out RW18.out F57_wf).mono ?_; rintro e w19 ⟨rfl, rfl⟩
  have c0 : w18.cell? ⟨w11.heap.size, 0, none⟩ = some (.bool true) := cell_row M18.out rfl
  have c1 : w18.cell? ⟨w11.heap.size, 1, none⟩ = some (.slice A11 1 c11) := cell_row M18.out rfl
  have c2 : w18.cell? ⟨w11.heap.size, 2, none⟩ = some (.slice A12 1 c12) := cell_row M18.out rfl
  have d0 : w18.cell? ⟨w2.heap.size, 0, none⟩ = some (.bool true) := cell_row L18.out rfl
  have d1 : w18.cell? ⟨w2.heap.size, 1, none⟩ = some (.slice (some ⟨w.heap.size, 0, none⟩) 1 1) := cell_row L18.out rfl
  have d2 : w18.cell? ⟨w2.heap.size, 2, none⟩ = some (.slice (some ⟨w1.heap.size, 0, none⟩) 1 1) := cell_row L18.out rfl
  go_wp2_with fail
  refine (rsame_at _ MK18.out MV18.out K18.out V18.out (same_refl true [5] [7])).mono ?_; rintro e w20 ⟨rfl, hb⟩
  have c0' : w20.cell? ⟨w11.heap.size, 0, none⟩ = some (.bool true) := pw_cell_below hb c0
  have c1' : w20.cell? ⟨w11.heap.size, 1, none⟩ = some (.slice A11 1 c11) := pw_cell_below hb c1
  have c2' : w20.cell? ⟨w11.heap.size, 2, none⟩ = some (.slice A12 1 c12) := pw_cell_below hb c2
  have d0' : w20.cell? ⟨w2.heap.size, 0, none⟩ = some (.bool true) := pw_cell_below hb d0
  have d1' : w20.cell? ⟨w2.heap.size, 1, none⟩ = some (.slice (some ⟨w.heap.size, 0, none⟩) 1 1) := pw_cell_below hb d1
  have d2' : w20.cell? ⟨w2.heap.size, 2, none⟩ = some (.slice (some ⟨w1.heap.size, 0, none⟩) 1 1) := pw_cell_below hb d2
  have MK20 := Lib.hid (ReadsInt.below MK18.out hb)
  have MV20 := Lib.hid (ReadsInt.below MV18.out hb)
  have K20 := Lib.hid (ReadsInt.below K18.out hb)
  have V20 := Lib.hid (ReadsInt.below V18.out hb)
  have B20 := Lib.hid (below_then B18.out B18.out.size hb)
  clear hb c0 c1 c2 d0 d1 d2
  go_wp2_with fail
  refine (same_at _ MK20.out MV20.out K20.out V20.out (same_refl true [5] [7])).mono ?_; rintro e w21 ⟨rfl, hb⟩
  have B21 := Lib.hid (below_then B20.out B20.out.size hb)
  clear hb
  go_wp2_with fail
  go_ret
  exact ⟨rfl, B21.out⟩
end Go.Proofs.Ytdekplalhfpooaa.Nod
