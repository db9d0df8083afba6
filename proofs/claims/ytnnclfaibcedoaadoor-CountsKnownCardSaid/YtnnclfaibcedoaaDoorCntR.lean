/- Counts: the chapter's rows: the walk of CountsKnown. -/
import Derived.BigQuiet
import Derived.Test.YtnnclfaibcedoaaDoorCntL
set_option linter.unusedVariables false
set_option linter.unusedSimpArgs false
namespace Go.Proofs.YtnnclfaibcedoaaDoor.Cnt
open Go Go.RowKit Go.Proofs.YtnnclfaibcedoaaDoorW.PrintWords Go.Proofs.YtnnclfaibcedoaaDoorW.PrintLast Go.Proofs.YtnnclfaibcedoaaDoorW.PrintMore Base Odr Hlp Trm

theorem made_n (w : World) (m : Nat) (hm : m ≤ 9223372036854775807) : ∃ w1, w.alloc (.cells (madeCells #[.int .u8 0] m) 5) = w1 ∧ Below w.heap.size w w1 ∧ w1.ownsRow w.heap.size 5 1 (.slice (some ⟨w.heap.size, 0, none⟩) m m) m (nums .u8 (List.replicate m 0)) :=
  ⟨_, rfl, (Below.refl _ _).alloc (Nat.le_refl _) _, own_made w w.heap.size 5 .u8 m (Nat.le_refl _) hm⟩
theorem make241 : ∀ W : World, (Instr.makeSlice 24 (.int .i64 241) (.int .i64 241)).run Tryd.prog W = .ok (.slice (some ⟨W.heap.size, 0, none⟩) 241 241) (W.alloc (.cells (madeCells #[.int .u8 0] 241) 5)) := by
  intro W; kernel_rfl
theorem make239 : ∀ W : World, (Instr.makeSlice 24 (.int .i64 239) (.int .i64 239)).run Tryd.prog W = .ok (.slice (some ⟨W.heap.size, 0, none⟩) 239 239) (W.alloc (.cells (madeCells #[.int .u8 0] 239) 5)) := by
  intro W; kernel_rfl
theorem reads_one {W : World} {g : Nat} (h : ∃ base, W.ownsRow base 5 1 (.slice (some ⟨g, 0, none⟩) 239 239) 239 (nums .u8 (List.replicate 239 0))) :
    ∃ w1, W.alloc (.cells #[.slice (some ⟨g, 0, none⟩) 239 239] 24) = w1 ∧ Below W.heap.size W w1 ∧ ReadsP w1 (some ⟨W.heap.size, 0, none⟩) 1 [⟨some ⟨g, 0, none⟩, 239, 239, List.replicate 239 0⟩] := by
  obtain ⟨base, h⟩ := h
  have hb : Below W.heap.size W (W.alloc (.cells #[.slice (some ⟨g, 0, none⟩) 239 239] 24)) := (Below.refl _ _).alloc (Nat.le_refl _) _
  refine ⟨_, rfl, hb, ?_, fun p hp => ?_⟩
  · obtain ⟨A, c, e, hr⟩ := own_reads_of (d := pg0) (own_lit_of (enc := sl) W W.heap.size 24 [⟨some ⟨g, 0, none⟩, 239, 239, List.replicate 239 0⟩] (Nat.le_refl _) (by simp))
    injection e with e1
    subst e1
    exact hr
  · obtain rfl : p = ⟨some ⟨g, 0, none⟩, 239, 239, List.replicate 239 0⟩ := by simpa using hp
    exact (reads_own h).below hb
set_option maxRecDepth 100000 in
set_option maxHeartbeats 6400000 in
theorem known_walk (w : World) : Calls Tryd.prog 6 #[] w fun e w' => e = .returned (.bool true) ∧ Below w.heap.size w w' := by
  have hmk := make241
  have hmk' := make239
  obtain ⟨Z, hZ⟩ : ∃ Z, List.replicate 241 (0 : Int) = Z := ⟨_, rfl⟩
  have ZL := Lib.hid (show Z.length = 241 by rw [← hZ]; exact List.length_replicate)
  have n2 : np Z.length = 2 := by rw [ZL.out]; rfl
  obtain ⟨w1, hw1, b1, o1⟩ := made_n w 241 (by omega)
  rw [hZ] at o1
  have B1 := Lib.hid b1
  have R1 := Lib.hid (reads_own o1)
  have N2 := Lib.hid n2
  have PL := Lib.hid (show (pgs Z).length = 2 by rw [pgs_length]; exact n2)
  clear b1 o1 n2
  go_enter Tryd.func6, Tryd.ntmps6
  go_wp2_with fail
  refine (put_at (m := 2) _ R1.out (by omega) (by omega) (by rfl)).mono ?_; rintro e w2 ⟨A2, c2, qs, rfl, -, -, hr, hq, hb⟩
  have P2 := Lib.hid hr
  have Q2 := Lib.hid hq
  have B2 := Lib.hid (below_then B1.out B1.out.size hb)
  clear hr hq hb hw1
  obtain ⟨w3, hw3, b3, o3⟩ := made_n w2 241 (by omega)
  rw [hZ] at o3
  have B3 := Lib.hid (below_then B2.out B2.out.size b3)
  have P3 := Lib.hid (P2.out.below b3)
  have R3 := Lib.hid (reads_own o3)
  clear b3 o3
  go_wp2_with fail
  have e1 : pgE Z 2 = 1 := by unfold pgE; rw [N2.out]; rfl
  have e2 : pgL Z 2 = [] := by unfold pgL; rw [N2.out]; rfl
  have hcall := page_at (c := 241) (k := 2) (er := 1) (l := []) _ R3.out (by omega) (by omega) (by omega) (by omega) e1 e2
  refine hcall.mono ?_
  rintro e w4 ⟨A4, m4, c4, rfl, -, hb⟩
  have B4 := Lib.hid (below_then B3.out B3.out.size hb)
  have P4 := Lib.hid (P3.out.below hb)
  clear hcall hb hw3 e1 e2
  go_wp2_with fail
  have hcall := page_at (A := none) (n := 0) (cs := []) (c := 0) (k := 0) (er := 1) (l := []) w4 (reads_nil _ _ _) (by omega) (by omega) (by omega) (by omega) rfl rfl
  refine hcall.mono ?_
  rintro e w5 ⟨A5, m5, c5, rfl, -, hb⟩
  have B5 := Lib.hid (below_then B4.out B4.out.size hb)
  have P5 := Lib.hid (P4.out.below hb)
  clear hcall hb
  go_wp2_with fail
  obtain ⟨e1, e2⟩ := tk_long (L := qs.map Pg.bs) (B := 240) (by omega) (by rw [Q2.out, PL.out]; decide)
  have hcall := take_at (c := c2) (er := 3) (l := []) (b := 240) _ P5.out (by omega) (by omega) e1 e2
  refine hcall.mono ?_
  intro e w6 hh
  obtain ⟨A6, m6, C6, rfl, -, hb⟩ := hh
  have B6 := Lib.hid (below_then B5.out B5.out.size hb)
  have P6 := Lib.hid (P5.out.below hb)
  clear hcall hb e1 e2
  go_wp2_with fail
  obtain ⟨e1, e2⟩ := tk_short (L := qs.map Pg.bs) (B := 481) (by omega) (by rw [Q2.out, PL.out]; decide)
  have hcall := take_at (c := c2) (er := 4) (l := []) (b := 481) _ P6.out (by omega) (by omega) e1 e2
  refine hcall.mono ?_
  intro e w7 hh
  obtain ⟨A7, m7, C7, rfl, -, hb⟩ := hh
  have B7 := Lib.hid (below_then B6.out B6.out.size hb)
  clear hcall hb e1 e2 P6 P5 P4 P3 P2
  obtain ⟨w8, hw8, b8, o8⟩ := made_n w7 239 (by omega)
  obtain ⟨w9, hw9, b9, r9⟩ := reads_one ⟨_, o8⟩
  have B9 := Lib.hid (below_then (below_then B7.out B7.out.size b8) (Nat.le_trans B7.out.size b8.size) b9)
  have R9 := Lib.hid r9
  clear b8 o8 b9 r9
  go_wp2_with fail
  have hcall := take_at (c := 1) (er := 5) (l := []) (b := 1) _ R9.out (by omega) (by omega) (by kernel_rfl) (by kernel_rfl)
  refine hcall.mono ?_
  intro e w10 hh
  obtain ⟨A10, m10, C10, rfl, -, hb⟩ := hh
  have B10 := Lib.hid (below_then B9.out B9.out.size hb)
  clear hcall hb hw8 hw9
  go_wp2_with fail
  have hcall := take_at (c := 0) (er := 1) (l := []) (b := -1) w10 (ReadsP.nil w10 none) (by omega) (by omega) (by kernel_rfl) (by kernel_rfl)
  refine hcall.mono ?_
  intro e w11 hh
  obtain ⟨A11, m11, C11, rfl, -, hb⟩ := hh
  have B11 := Lib.hid (below_then B10.out B10.out.size hb)
  clear hcall hb
  go_wp2_with fail
  have hcall := take_at (c := 0) (er := 1) (l := []) (b := 1025) w11 (ReadsP.nil w11 none) (by omega) (by omega) (by kernel_rfl) (by kernel_rfl)
  refine hcall.mono ?_
  intro e w12 hh
  obtain ⟨A12, m12, C12, rfl, -, hb⟩ := hh
  have B12 := Lib.hid (below_then B11.out B11.out.size hb)
  clear hcall hb
  go_wp2_with fail
  have hcall := take_at (c := 0) (er := 0) (l := []) (b := 0) w12 (ReadsP.nil w12 none) (by omega) (by omega) (by kernel_rfl) (by kernel_rfl)
  refine hcall.mono ?_
  intro e w13 hh
  obtain ⟨A13, m13, C13, rfl, ho, hb⟩ := hh
  obtain rfl : 0 = m13 := got_len ho
  have B13 := Lib.hid (below_then B12.out B12.out.size hb)
  clear hcall hb ho
  go_wp2_with fail
  refine (pages_any (r := 5) _ (by omega) (by omega) (by kernel_rfl)).mono ?_; rintro e w14 ⟨rfl, rfl⟩
  go_wp2_with fail
  refine (pages_any (r := 0) _ (by omega) (by omega) (by kernel_rfl)).mono ?_; rintro e w14 ⟨rfl, rfl⟩
  go_wp2_with fail
  refine (pages_any (r := 38430716820228233) _ (by omega) (by omega) (by kernel_rfl)).mono ?_; rintro e w14 ⟨rfl, rfl⟩
  go_wp2_with fail
  refine (wakes_any _).mono ?_; rintro e w15 ⟨rfl, hb⟩
  have B15 := Lib.hid (below_then B13.out B13.out.size hb)
  clear hb
  go_wp2_with fail
  go_ret
  exact ⟨rfl, B15.out⟩
end Go.Proofs.YtnnclfaibcedoaaDoor.Cnt
