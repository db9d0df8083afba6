/- Knots: examples; ends: the walk. -/
import Derived.BigQuiet
import Derived.Test.YtdekplalhfpooaaKntL
import Derived.Test.YtdekplalhfpooaaKntY
set_option linter.unusedVariables false
set_option linter.unusedSimpArgs false
namespace Go.Proofs.Ytdekplalhfpooaa.Knt
open Go Go.RowKit Go.Proofs.YtdekplalhfpooaaW.PrintWords Go.Proofs.YtdekplalhfpooaaW.PrintLast Go.Proofs.YtdekplalhfpooaaW.PrintMore Base Odr Hlp Nod

theorem reads2 {w : World} {g : Nat} {a b : Int} (h : w.heap[g]? = some (.cells #[.int .u64 a, .int .u64 b] 25)) : ReadsInt w .u64 (some ⟨g, 0, none⟩) 2 [a, b] := row_reads (k := .u64) (xs := [a, b]) h (by simp)
theorem reads0 (w : World) : ReadsInt w .u64 none 0 [] := ⟨rfl, by omega, fun h => absurd h (Nat.lt_irrefl 0)⟩
set_option maxRecDepth 100000 in
set_option maxHeartbeats 6400000 in
theorem known_walk (w : World) : Calls Try.prog 13 #[] w fun e w' => e = .returned (.bool true) ∧ Below w.heap.size w w' := by
  obtain ⟨w1, hw1, b1, f1, s1⟩ := made w #[.int .u64 3, .int .u64 5, .int .u64 9] 25
  have Kw1 := Lib.hid ((Keeps.nil (W := w1)).addRd (reads3 f1))
  have Bw1 := Lib.hid b1
  clear b1 f1 s1
  go_enter Try.func13, Try.ntmps13
  go_wp2_with fail
  clear hw1
  refine (list_at [3, 5, 9] _ 3 3 _ (Kw1.out.rd 0 rfl) (by omega)).mono ?_; rintro e w2 ⟨A1, c1, B1, d1, rfl, o1, hb⟩
  have Kw2 := Lib.hid (((Kw1.out.below hb).addRd (mine_reads o1.k)).addRd (mine_reads o1.v))
  have Bw2 := Lib.hid (below_then' Bw1.out hb)
  clear hb o1 Kw1 Bw1
  obtain ⟨yw3, hyw3⟩ : ∃ x, w2.alloc (.cells #[.bool false, .slice none 0 0, .slice none 0 0] 24) = x := ⟨_, rfl⟩
  obtain ⟨w3, hzw3⟩ : ∃ x, yw3.setRow w2.heap.size #[.bool false, .slice A1 3 c1, .slice B1 3 d1] = x := ⟨_, rfl⟩
  have Xw3 := Lib.hid (one_row hyw3 hzw3)
  have Kw3 := Lib.hid ((Kw2.out.below Xw3.out.1).addRow Xw3.out.2.2)
  have Bw3 := Lib.hid (below_then' Bw2.out Xw3.out.1)
  clear Kw2 Bw2
  go_wp2_with (first | ((with_reducible refine wpList_store_row rfl 24 (.tmp 1) (.tmp 12) rfl w2.heap.size #[.bool false, .slice A1 3 c1, .slice B1 3 d1] ?_ ?_ 24 _ Xw3.out.2.1 (size3 _ _ _) ?_ (one3 _ _ _ _ _ _ _) ?_); rfl; rfl; rfl; rw [hzw3]) | ((with_reducible refine wpList_load_row rfl 24 (.tmp 1) rfl w2.heap.size ?_ 24 _ _ _ (Kw3.out.row 0 rfl) Try.underlying24 ?_ (size3 _ _ _) ?_); rfl; rfl))
  clear hyw3 hzw3 Xw3
  refine (find_at false [3, 5, 9] (places 3) A1 B1 3 c1 3 d1 10 _ (Kw3.out.rd 1 rfl) (Kw3.out.rd 0 rfl) (m := 3) (i := 3) (r := false) rfl (by decide) (by decide)).mono ?_; rintro e w4 ⟨rfl, hb⟩
  have Kw4 := Lib.hid (Kw3.out.below hb)
  have Bw4 := Lib.hid (below_then' Bw3.out hb)
  clear hb Kw3 Bw3
  go_wp2_with fail
  refine (find_at false [] [] none none 0 0 0 0 1 _ (reads0 _) (reads0 _) (m := 0) (i := 0) (r := false) rfl (by decide) (by decide)).mono ?_; rintro e w5 ⟨rfl, hb⟩
  have Kw5 := Lib.hid (Kw4.out.below hb)
  have Bw5 := Lib.hid (below_then' Bw4.out hb)
  clear hb Kw4 Bw4
  obtain ⟨w6, hw6, b6, f6, s6⟩ := made w5 #[.int .u64 1, .int .u64 2] 25
  obtain ⟨w7, hw7, b7, f7, s7⟩ := made w6 #[.int .u64 4] 25
  have Kw7 := Lib.hid (((Kw5.out.below (below_then' b6 b7)).addRd (reads2 (keep_row f6 b7))).addRd (reads1 f7))
  have Bw7 := Lib.hid (below_then' Bw5.out (below_then' b6 b7))
  clear b6 f6 s6 b7 f7 s7 Kw5 Bw5
  obtain ⟨yw8, hyw8⟩ : ∃ x, w7.alloc (.cells #[.bool false, .slice none 0 0, .slice none 0 0] 24) = x := ⟨_, rfl⟩
  obtain ⟨w8, hzw8⟩ : ∃ x, yw8.setRow w7.heap.size #[.bool true, .slice (some ⟨w5.heap.size, 0, none⟩) 2 2, .slice (some ⟨w6.heap.size, 0, none⟩) 1 1] = x := ⟨_, rfl⟩
  have Xw8 := Lib.hid (one_row hyw8 hzw8)
  have Kw8 := Lib.hid ((Kw7.out.below Xw8.out.1).addRow Xw8.out.2.2)
  have Bw8 := Lib.hid (below_then' Bw7.out Xw8.out.1)
  clear Kw7 Bw7
  go_wp2_with (first | ((with_reducible refine wpList_store_row rfl 24 (.tmp 6) (.tmp 25) rfl w7.heap.size #[.bool true, .slice (some ⟨w5.heap.size, 0, none⟩) 2 2, .slice (some ⟨w6.heap.size, 0, none⟩) 1 1] ?_ ?_ 24 _ Xw8.out.2.1 (size3 _ _ _) ?_ (one3 _ _ _ _ _ _ _) ?_); rfl; rfl; rfl; rw [hzw8]) | ((with_reducible refine wpList_load_row rfl 24 (.tmp 6) rfl w7.heap.size ?_ 24 _ _ _ (Kw8.out.row 0 rfl) Try.underlying24 ?_ (size3 _ _ _) ?_); rfl; rfl))
  clear hyw8 hzw8 Xw8
  clear hw6 hw7
  refine (inst_at true [1, 2] [4] [1, 7] [4, 8] (some ⟨w5.heap.size, 0, none⟩) (some ⟨w6.heap.size, 0, none⟩) 2 2 1 1 1 1 9 7 8 _ (Kw8.out.rd 1 rfl) (Kw8.out.rd 0 rfl) rfl (by decide) (by decide) (by decide) ⟨by omega, by omega⟩ ⟨(fun h => by cases h), (fun h => by cases h)⟩ (by omega)).mono ?_; rintro e w9 ⟨A2, c2, B2, d2, rfl, o1, hb⟩
  have Kw9 := Lib.hid (((Kw8.out.below hb).addRd (mine_reads o1.k)).addRd (mine_reads o1.v))
  have Bw9 := Lib.hid (below_then' Bw8.out hb)
  clear hb o1 Kw8 Bw8
  obtain ⟨yw10, hyw10⟩ : ∃ x, w9.alloc (.cells #[.bool false, .slice none 0 0, .slice none 0 0] 24) = x := ⟨_, rfl⟩
  obtain ⟨w10, hzw10⟩ : ∃ x, yw10.setRow w9.heap.size #[.bool true, .slice A2 (1 + 1) c2, .slice B2 (1 + 1) d2] = x := ⟨_, rfl⟩
  have Xw10 := Lib.hid (one_row hyw10 hzw10)
  have Kw10 := Lib.hid ((Kw9.out.below Xw10.out.1).addRow Xw10.out.2.2)
  have Bw10 := Lib.hid (below_then' Bw9.out Xw10.out.1)
  clear Kw9 Bw9
  go_wp2_with (first | ((with_reducible refine wpList_store_row rfl 24 (.tmp 7) (.tmp 27) rfl w9.heap.size #[.bool true, .slice A2 (1 + 1) c2, .slice B2 (1 + 1) d2] ?_ ?_ 24 _ Xw10.out.2.1 (size3 _ _ _) ?_ (one3 _ _ _ _ _ _ _) ?_); rfl; rfl; rfl; rw [hzw10]) | ((with_reducible refine wpList_load_row rfl 24 (.tmp 6) rfl w7.heap.size ?_ 24 _ _ _ (Kw10.out.row 1 rfl) Try.underlying24 ?_ (size3 _ _ _) ?_); rfl; rfl))
  clear hyw10 hzw10 Xw10
  refine (rem_at true [1, 2] [4] [1] [4] (some ⟨w5.heap.size, 0, none⟩) (some ⟨w6.heap.size, 0, none⟩) 2 2 1 1 1 1 1 _ (Kw10.out.rd 3 rfl) (Kw10.out.rd 2 rfl) rfl (by decide) (by decide) (by decide) ⟨by omega, by omega⟩ ⟨(fun h => by cases h), (fun h => by cases h)⟩ (by omega)).mono ?_; rintro e w11 ⟨A3, c3, B3, d3, rfl, o1, hb⟩
  have Kw11 := Lib.hid (((Kw10.out.below hb).addRd (mine_reads o1.k)).addRd (mine_reads o1.v))
  have Bw11 := Lib.hid (below_then' Bw10.out hb)
  clear hb o1 Kw10 Bw10
  obtain ⟨yw12, hyw12⟩ : ∃ x, w11.alloc (.cells #[.bool false, .slice none 0 0, .slice none 0 0] 24) = x := ⟨_, rfl⟩
  obtain ⟨w12, hzw12⟩ : ∃ x, yw12.setRow w11.heap.size #[.bool true, .slice A3 1 c3, .slice B3 1 d3] = x := ⟨_, rfl⟩
  have Xw12 := Lib.hid (one_row hyw12 hzw12)
  have Kw12 := Lib.hid ((Kw11.out.below Xw12.out.1).addRow Xw12.out.2.2)
  have Bw12 := Lib.hid (below_then' Bw11.out Xw12.out.1)
  clear Kw11 Bw11
  go_wp2_with (first | ((with_reducible refine wpList_store_row rfl 24 (.tmp 8) (.tmp 29) rfl w11.heap.size #[.bool true, .slice A3 1 c3, .slice B3 1 d3] ?_ ?_ 24 _ Xw12.out.2.1 (size3 _ _ _) ?_ (one3 _ _ _ _ _ _ _) ?_); rfl; rfl; rfl; rw [hzw12]) | ((with_reducible refine wpList_load_row rfl 24 (.tmp 6) rfl w7.heap.size ?_ 24 _ _ _ (Kw12.out.row 2 rfl) Try.underlying24 ?_ (size3 _ _ _) ?_); rfl; rfl))
  clear hyw12 hzw12 Xw12
  refine (join_at false true [] [] [1, 2] [4] none none (some ⟨w5.heap.size, 0, none⟩) (some ⟨w6.heap.size, 0, none⟩) 0 0 0 0 2 2 1 1 0 1 1 _ (reads0 _) (reads0 _) (Kw12.out.rd 5 rfl) (Kw12.out.rd 4 rfl) rfl rfl rfl ⟨Nat.le_refl _, Nat.le_refl _⟩ ⟨fun _ => rfl, fun _ => rfl⟩ ⟨by omega, by omega⟩ ⟨(fun h => by cases h), (fun h => by cases h)⟩ (by omega)).mono ?_; rintro e w13 ⟨A4, c4, B4, d4, rfl, o1, hb⟩
  have Kw13 := Lib.hid (((Kw12.out.below hb).addRd (mine_reads o1.k)).addRd (mine_reads o1.v))
  have Bw13 := Lib.hid (below_then' Bw12.out hb)
  clear hb o1 Kw12 Bw12
  obtain ⟨yw14, hyw14⟩ : ∃ x, w13.alloc (.cells #[.bool false, .slice none 0 0, .slice none 0 0] 24) = x := ⟨_, rfl⟩
  obtain ⟨w14, hzw14⟩ : ∃ x, yw14.setRow w13.heap.size #[.bool false, .slice A4 1 c4, .slice B4 1 d4] = x := ⟨_, rfl⟩
  have Xw14 := Lib.hid (one_row hyw14 hzw14)
  have Kw14 := Lib.hid ((Kw13.out.below Xw14.out.1).addRow Xw14.out.2.2)
  have Bw14 := Lib.hid (below_then' Bw13.out Xw14.out.1)
  clear Kw13 Bw13
  go_wp2_with (first | ((with_reducible refine wpList_store_row rfl 24 (.tmp 9) (.tmp 32) rfl w13.heap.size #[.bool false, .slice A4 1 c4, .slice B4 1 d4] ?_ ?_ 24 _ Xw14.out.2.1 (size3 _ _ _) ?_ (one3 _ _ _ _ _ _ _) ?_); rfl; rfl; rfl; rw [hzw14]) | ((with_reducible refine wpList_load_row rfl 24 (.tmp 6) rfl w7.heap.size ?_ 24 _ _ _ (Kw14.out.row 3 rfl) Try.underlying24 ?_ (size3 _ _ _) ?_); rfl; rfl))
  clear hyw14 hzw14 Xw14
  refine (set_at true [1, 2] [4] [3] [9223372036854775808] (some ⟨w5.heap.size, 0, none⟩) (some ⟨w6.heap.size, 0, none⟩) 2 2 1 1 1 0 3 9223372036854775808 _ (Kw14.out.rd 7 rfl) (Kw14.out.rd 6 rfl) rfl (by decide) (by decide) ⟨by omega, by omega⟩ ⟨(fun h => by cases h), (fun h => by cases h)⟩ (by omega)).mono ?_; rintro e w15 ⟨A5, c5, B5, d5, rfl, o1, hb⟩
  have Kw15 := Lib.hid (((Kw14.out.below hb).addRd (mine_reads o1.k)).addRd (mine_reads o1.v))
  have Bw15 := Lib.hid (below_then' Bw14.out hb)
  clear hb o1 Kw14 Bw14
  obtain ⟨yw16, hyw16⟩ : ∃ x, w15.alloc (.cells #[.bool false, .slice none 0 0, .slice none 0 0] 24) = x := ⟨_, rfl⟩
  obtain ⟨w16, hzw16⟩ : ∃ x, yw16.setRow w15.heap.size #[.bool true, .slice A5 1 c5, .slice B5 1 d5] = x := ⟨_, rfl⟩
  have Xw16 := Lib.hid (one_row hyw16 hzw16)
  have Kw16 := Lib.hid ((Kw15.out.below Xw16.out.1).addRow Xw16.out.2.2)
  have Bw16 := Lib.hid (below_then' Bw15.out Xw16.out.1)
  clear Kw15 Bw15
  obtain ⟨a5, rfl, e5⟩ := cell_at (Kw16.out.rd 1 rfl) 0 (by omega)
  obtain ⟨b5, rfl, g5⟩ := cell_at (Kw16.out.rd 0 rfl) 0 (by omega)
  have E5 := Lib.hid (show w16.cell? a5 = some (.int .u64 3) by simpa [Addr.add] using e5)
  have G5 := Lib.hid (show w16.cell? b5 = some (.int .u64 9223372036854775808) by simpa [Addr.add] using g5)
  clear e5 g5
  go_wp2_with (((with_reducible refine wpList_store_row rfl 24 (.tmp 10) (.tmp 34) rfl w15.heap.size #[.bool true, .slice (some a5) 1 c5, .slice (some b5) 1 d5] ?_ ?_ 24 _ Xw16.out.2.1 (size3 _ _ _) ?_ (one3 _ _ _ _ _ _ _) ?_); rfl; rfl; rfl; rw [hzw16]; have x1 : w16.cell? ⟨w15.heap.size, 1, none⟩ = some (.slice (some a5) 1 c5) := cell_row (Kw16.out.row 0 rfl) rfl; have x2 : w16.cell? ⟨w15.heap.size, 2, none⟩ = some (.slice (some b5) 1 d5) := cell_row (Kw16.out.row 0 rfl) rfl; have e5 := E5.out; have g5 := G5.out))
  clear x1 x2 e5 g5 hyw16 hzw16 Xw16
  refine (awake_any _).mono ?_; rintro e w17 ⟨rfl, hb⟩
  have Kw17 := Lib.hid (Kw16.out.below hb)
  have Bw17 := Lib.hid (below_then' Bw16.out hb)
  clear hb Kw16 Bw16
  have x0 : w17.cell? ⟨w2.heap.size, 0, none⟩ = some (.bool false) := cell_row (Kw17.out.row 5 rfl) rfl
  have x1 : w17.cell? ⟨w2.heap.size, 1, none⟩ = some (.slice A1 3 c1) := cell_row (Kw17.out.row 5 rfl) rfl
  have x2 : w17.cell? ⟨w2.heap.size, 2, none⟩ = some (.slice B1 3 d1) := cell_row (Kw17.out.row 5 rfl) rfl
  go_wp2_with fail
  clear x0 x1 x2
  refine (child_at false [3, 5, 9] (places 3) A1 B1 3 c1 3 d1 3 _ (Kw17.out.rd 11 rfl) (Kw17.out.rd 10 rfl) (m := 3) (i := 0) rfl (by decide)).mono ?_; rintro e w18 ⟨rfl, hb⟩
  have Kw18 := Lib.hid (Kw17.out.below hb)
  have Bw18 := Lib.hid (below_then' Bw17.out hb)
  clear hb Kw17 Bw17
  have x0 : w18.cell? ⟨w2.heap.size, 0, none⟩ = some (.bool false) := cell_row (Kw18.out.row 5 rfl) rfl
  have x1 : w18.cell? ⟨w2.heap.size, 1, none⟩ = some (.slice A1 3 c1) := cell_row (Kw18.out.row 5 rfl) rfl
  have x2 : w18.cell? ⟨w2.heap.size, 2, none⟩ = some (.slice B1 3 d1) := cell_row (Kw18.out.row 5 rfl) rfl
  go_wp2_with fail
  clear x0 x1 x2
  refine (child_at false [3, 5, 9] (places 3) A1 B1 3 c1 3 d1 9 _ (Kw18.out.rd 11 rfl) (Kw18.out.rd 10 rfl) (m := 3) (i := 2) rfl (by decide)).mono ?_; rintro e w19 ⟨rfl, hb⟩
  have Kw19 := Lib.hid (Kw18.out.below hb)
  have Bw19 := Lib.hid (below_then' Bw18.out hb)
  clear hb Kw18 Bw18
  go_wp2_with fail
  refine (child_at false [] [] none none 0 0 0 0 3 _ (reads0 _) (reads0 _) (m := 0) (i := 0) rfl (by decide)).mono ?_; rintro e w20 ⟨rfl, hb⟩
  have Kw20 := Lib.hid (Kw19.out.below hb)
  have Bw20 := Lib.hid (below_then' Bw19.out hb)
  clear hb Kw19 Bw19
  obtain ⟨a2, rfl, e2⟩ := cell_at (Kw20.out.rd 7 rfl) 1 (by omega)
  obtain ⟨b2, rfl, g2⟩ := cell_at (Kw20.out.rd 6 rfl) 1 (by omega)
  have e3 : w20.cell? ⟨a2.block, a2.off + 1, none⟩ = some (.int .u64 7) := by simpa [Addr.add] using e2
  have g3 : w20.cell? ⟨b2.block, b2.off + 1, none⟩ = some (.int .u64 8) := by simpa [Addr.add] using g2
  clear e2 g2
  have p0 : w20.cell? ⟨w9.heap.size, 0, none⟩ = some (.bool true) := cell_row (Kw20.out.row 3 rfl) rfl
  have p1 : w20.cell? ⟨w9.heap.size, 1, none⟩ = some (.slice (some a2) (1 + 1) c2) := cell_row (Kw20.out.row 3 rfl) rfl
  have p2 : w20.cell? ⟨w9.heap.size, 2, none⟩ = some (.slice (some b2) (1 + 1) d2) := cell_row (Kw20.out.row 3 rfl) rfl
  have q1 : w20.cell? ⟨w11.heap.size, 1, none⟩ = some (.slice A3 1 c3) := cell_row (Kw20.out.row 2 rfl) rfl
  have r0 : w20.cell? ⟨w13.heap.size, 0, none⟩ = some (.bool false) := cell_row (Kw20.out.row 1 rfl) rfl
  have r1 : w20.cell? ⟨w13.heap.size, 1, none⟩ = some (.slice A4 1 c4) := cell_row (Kw20.out.row 1 rfl) rfl
  go_wp2_with fail
  go_ret
  exact ⟨rfl, Bw20.out⟩
end Go.Proofs.Ytdekplalhfpooaa.Knt
