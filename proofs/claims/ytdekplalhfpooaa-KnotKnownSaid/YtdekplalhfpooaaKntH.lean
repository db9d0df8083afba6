/- Knots: what the document's examples say (awake), by its contract. -/
import Derived.BigQuiet
import Derived.Test.YtdekplalhfpooaaKntG
set_option linter.unusedVariables false
set_option linter.unusedSimpArgs false
namespace Go.Proofs.Ytdekplalhfpooaa.Knt
open Go Go.RowKit Go.Proofs.YtdekplalhfpooaaW.PrintWords Go.Proofs.YtdekplalhfpooaaW.PrintLast Go.Proofs.YtdekplalhfpooaaW.PrintMore Base Odr Hlp Nod

theorem reads3 {w : World} {g : Nat} {a b c : Int} (h : w.heap[g]? = some (.cells #[.int .u64 a, .int .u64 b, .int .u64 c] 25)) : ReadsInt w .u64 (some ⟨g, 0, none⟩) 3 [a, b, c] := row_reads (k := .u64) (xs := [a, b, c]) h (by simp)
theorem reads1 {w : World} {g : Nat} {a : Int} (h : w.heap[g]? = some (.cells #[.int .u64 a] 25)) : ReadsInt w .u64 (some ⟨g, 0, none⟩) 1 [a] := row_reads (k := .u64) (xs := [a]) h (by simp)
theorem two_rows {w a b c d : World} {cs ds : Array Value} (ha : w.alloc (.cells #[.bool false, .slice none 0 0, .slice none 0 0] 24) = a) (hb : a.alloc (.cells #[.bool false, .slice none 0 0, .slice none 0 0] 24) = b) (hc : b.setRow w.heap.size cs = c) (hd : c.setRow a.heap.size ds = d) :
    Below w.heap.size w d ∧ b.heap[w.heap.size]? = some (.cells #[.bool false, .slice none 0 0, .slice none 0 0] 24) ∧ c.heap[a.heap.size]? = some (.cells #[.bool false, .slice none 0 0, .slice none 0 0] 24) ∧ d.heap[w.heap.size]? = some (.cells cs 24) ∧ d.heap[a.heap.size]? = some (.cells ds 24) := by
  have sa : a.heap.size = w.heap.size + 1 := by rw [← ha]; exact World.size_alloc _ _
  have fa : a.heap[w.heap.size]? = some (.cells #[.bool false, .slice none 0 0, .slice none 0 0] 24) := by rw [← ha]; exact heap_alloc_new _ _
  have ba : Below w.heap.size w a := by rw [← ha]; exact (Below.refl _ _).alloc (Nat.le_refl _) _
  have bb : Below a.heap.size a b := by rw [← hb]; exact (Below.refl _ _).alloc (Nat.le_refl _) _
  have fb : b.heap[w.heap.size]? = some (.cells #[.bool false, .slice none 0 0, .slice none 0 0] 24) := keep_row fa bb
  have fb2 : b.heap[a.heap.size]? = some (.cells #[.bool false, .slice none 0 0, .slice none 0 0] 24) := by rw [← hb]; exact heap_alloc_new _ _
  have hne : a.heap.size ≠ w.heap.size := by omega
  have fc : c.heap[a.heap.size]? = some (.cells #[.bool false, .slice none 0 0, .slice none 0 0] 24) := by rw [← hc, setRow_other _ _ _ _ hne]; exact fb2
  refine ⟨?_, fb, fc, ?_, ?_⟩
  · rw [← hd, ← hc]; exact below_setRow (below_setRow (below_then' ba bb) (Nat.le_refl _) _) (by omega) _
  · rw [← hd, setRow_other _ _ _ _ (Ne.symm hne), ← hc]; exact setRow_heap _ _ _ _ _ _ fb
  · rw [← hd]; exact setRow_heap _ _ _ _ _ _ fc
set_option maxRecDepth 100000 in
set_option maxHeartbeats 6400000 in
theorem awake_any (w : World) : Calls Try.prog 16 #[] w fun e w' => e = .returned (.bool true) ∧ Below w.heap.size w w' := by
  go_enter Try.func16, Try.ntmps16
  obtain ⟨v1, hv1, bv1, fv1, sv1⟩ := made w #[.int .u64 1, .int .u64 5, .int .u64 9] 25
  have Bv1 := Lib.hid (bv1)
  have Rv1 := Lib.hid (reads3 fv1)
  clear bv1 fv1 sv1
  go_wp2_with fail
  clear hv1
  refine (list_at [1, 5, 9] (some ⟨w.heap.size, 0, none⟩) 3 3 _ Rv1.out (by omega)).mono ?_; rintro e v2 ⟨A0, a0, D0, d0, rfl, ho, hb⟩
  have Bv2 := Lib.hid (below_then' Bv1.out hb)
  clear Bv1
  have O0 := Lib.hid ho
  clear ho hb Rv1
  go_wp2_with fail
  refine (find_at false [1, 5, 9] (places 3) A0 D0 3 a0 3 d0 5 _ (mine_reads O0.out.k) (mine_reads O0.out.v) (m := 3) (i := 1) (r := true) rfl (by kernel_rfl) (by kernel_rfl)).mono ?_; rintro e v3 ⟨rfl, hb⟩
  have Bv3 := Lib.hid (below_then' Bv2.out hb)
  clear Bv2
  clear hb O0
  obtain ⟨v4, hv4, bv4, fv4, sv4⟩ := made v3 #[.int .u64 1, .int .u64 5, .int .u64 9] 25
  have Bv4 := Lib.hid (below_then' Bv3.out bv4)
  clear Bv3
  have Rv4 := Lib.hid (reads3 fv4)
  clear bv4 fv4 sv4
  go_wp2_with fail
  clear hv4
  refine (list_at [1, 5, 9] (some ⟨v3.heap.size, 0, none⟩) 3 3 _ Rv4.out (by omega)).mono ?_; rintro e v5 ⟨A1, a1, D1, d1, rfl, ho, hb⟩
  have Bv5 := Lib.hid (below_then' Bv4.out hb)
  clear Bv4
  have O1 := Lib.hid ho
  clear ho hb Rv4
  go_wp2_with fail
  refine (find_at false [1, 5, 9] (places 3) A1 D1 3 a1 3 d1 6 _ (mine_reads O1.out.k) (mine_reads O1.out.v) (m := 3) (i := 2) (r := false) rfl (by kernel_rfl) (by kernel_rfl)).mono ?_; rintro e v6 ⟨rfl, hb⟩
  have Bv6 := Lib.hid (below_then' Bv5.out hb)
  clear Bv5
  clear hb O1
  obtain ⟨v7, hv7, bv7, fv7, sv7⟩ := made v6 #[.int .u64 1, .int .u64 2, .int .u64 3] 25
  have Bv7 := Lib.hid (below_then' Bv6.out bv7)
  clear Bv6
  have Rv7 := Lib.hid (reads3 fv7)
  clear bv7 fv7 sv7
  go_wp2_with fail
  clear hv7
  refine (list_at [1, 2, 3] (some ⟨v6.heap.size, 0, none⟩) 3 3 _ Rv7.out (by omega)).mono ?_; rintro e v8 ⟨A2, a2, D2, d2, rfl, ho, hb⟩
  have Bv8 := Lib.hid (below_then' Bv7.out hb)
  clear Bv7
  have O2 := Lib.hid ho
  clear ho hb Rv7
  go_wp2_with fail
  refine (split_at false [1, 2, 3] (places 3) A2 D2 3 a2 3 d2 3 2 1 _ (mine_reads O2.out.k) (mine_reads O2.out.v) rfl rfl rfl ⟨O2.out.lk, O2.out.lv⟩ ⟨fun h => (O2.out.nk h).2, fun h => (O2.out.nv h).2⟩ (by omega)).mono ?_; rintro e v9 ⟨P1, p1, Q1, q1, R1, r1, S1, s1, rfl, o1, o2, g1, g2, g3, g4, hb⟩
  have Bv9 := Lib.hid (below_then' Bv8.out hb)
  clear Bv8
  clear o1 o2 g1 g2 g3 g4 hb O2
  obtain ⟨v10, hv10⟩ : ∃ x, v9.alloc (.cells #[.bool false, .slice none 0 0, .slice none 0 0] 24) = x := ⟨_, rfl⟩
  obtain ⟨v11, hv11⟩ : ∃ x, v10.alloc (.cells #[.bool false, .slice none 0 0, .slice none 0 0] 24) = x := ⟨_, rfl⟩
  obtain ⟨v12, hv12⟩ : ∃ x, v11.setRow v9.heap.size #[.bool false, .slice P1 2 p1, .slice Q1 2 q1] = x := ⟨_, rfl⟩
  obtain ⟨v13, hv13⟩ : ∃ x, v12.setRow v10.heap.size #[.bool false, .slice R1 1 r1, .slice S1 1 s1] = x := ⟨_, rfl⟩
  have T1 := Lib.hid (two_rows hv10 hv11 hv12 hv13)
  have hqv10 : v10.heap.size = v9.heap.size + 1 := by rw [← hv10]; exact World.size_alloc _ _
  have HQv10 := Lib.hid hqv10
  clear hqv10
  have Bv13 := Lib.hid (below_then' Bv9.out T1.out.1)
  clear Bv9
  have X5 := Lib.hid T1.out.2.2.2.1
  have X6 := Lib.hid T1.out.2.2.2.2
  obtain ⟨v14, hv14, bv14, fv14, sv14⟩ := made v13 #[.int .u64 1] 25
  have Bv14 := Lib.hid (below_then' Bv13.out bv14)
  clear Bv13
  have Cv14 := Lib.hid (bv14)
  have Rv14 := Lib.hid (reads1 fv14)
  clear bv14 fv14 sv14
  go_wp2_with (first | ((with_reducible refine wpList_store_row rfl 24 (.tmp 5) (.tmp 25) rfl v9.heap.size #[.bool false, .slice P1 2 p1, .slice Q1 2 q1] ?_ ?_ 24 _ T1.out.2.1 (size3 _ _ _) ?_ (one3 _ _ _ _ _ _ _) ?_); rfl; rfl; rfl; rw [hv12]) | ((with_reducible refine wpList_store_row rfl 24 (.tmp 6) (.tmp 26) rfl v10.heap.size #[.bool false, .slice R1 1 r1, .slice S1 1 s1] ?_ ?_ 24 _ T1.out.2.2.1 (size3 _ _ _) ?_ (one3 _ _ _ _ _ _ _) ?_); rfl; rfl; rfl; rw [hv13]))
  clear hv10 hv11 hv12 hv13 T1
  clear hv14
  refine (list_at [1] (some ⟨v13.heap.size, 0, none⟩) 1 1 _ Rv14.out (by omega)).mono ?_; rintro e v15 ⟨A3, a3, D3, d3, rfl, ho, hb⟩
  have Bv15 := Lib.hid (below_then' Bv14.out hb)
  clear Bv14
  have Cv15 := Lib.hid (below_then' Cv14.out hb)
  clear Cv14
  have O3 := Lib.hid ho
  clear ho hb Rv14
  have O3' := Lib.hid O3.out
  obtain ⟨v16, hv16, bv16, fv16, sv16⟩ := made v15 #[.int .u64 2, .int .u64 3, .int .u64 4] 25
  have Bv16 := Lib.hid (below_then' Bv15.out bv16)
  clear Bv15
  have Cv16 := Lib.hid (below_then' Cv15.out bv16)
  clear Cv15
  have Rv16 := Lib.hid (reads3 fv16)
  have O3b := Lib.hid (own2_below O3.out bv16)
  clear bv16 fv16 sv16
  go_wp2_with fail
  clear hv16
  refine (list_at [2, 3, 4] (some ⟨v15.heap.size, 0, none⟩) 3 3 _ Rv16.out (by omega)).mono ?_; rintro e v17 ⟨A4, a4, D4, d4, rfl, ho, hb⟩
  have Bv17 := Lib.hid (below_then' Bv16.out hb)
  clear Bv16
  have Cv17 := Lib.hid (below_then' Cv16.out hb)
  clear Cv16
  have O4 := Lib.hid ho
  have O3c := Lib.hid (own2_below O3b.out hb)
  clear ho hb Rv16
  go_wp2_with fail
  refine (even_at false false [1] (places 1) [2, 3, 4] (places 3) [1, 2, 3, 4] [1, 1, 2, 3] A3 D3 A4 D4 1 a3 1 d3 3 a4 3 d4 1 3 4 2 2 _ (mine_reads O3c.out.k) (mine_reads O3c.out.v) (mine_reads O4.out.k) (mine_reads O4.out.v) rfl rfl rfl rfl rfl ⟨by kernel_rfl, by kernel_rfl⟩ ⟨O3c.out.lk, O3c.out.lv⟩ ⟨fun h => (O3c.out.nk h).2, fun h => (O3c.out.nv h).2⟩ ⟨O4.out.lk, O4.out.lv⟩ ⟨fun h => (O4.out.nk h).2, fun h => (O4.out.nv h).2⟩ (by omega)).mono ?_; rintro e v18 ⟨P2, p2, Q2, q2, R2, r2, S2, s2, rfl, o1, o2, g1, g2, g3, g4, hb⟩
  have Bv18 := Lib.hid (below_then' Bv17.out hb)
  clear Bv17
  have Cv18 := Lib.hid (below_then' Cv17.out hb)
  clear Cv17
  have OF := Lib.hid o2
  clear o1 o2 g1 g2 g3 g4 hb O3 O3' O3b O3c O4
  obtain ⟨v19, hv19⟩ : ∃ x, v18.alloc (.cells #[.bool false, .slice none 0 0, .slice none 0 0] 24) = x := ⟨_, rfl⟩
  obtain ⟨v20, hv20⟩ : ∃ x, v19.alloc (.cells #[.bool false, .slice none 0 0, .slice none 0 0] 24) = x := ⟨_, rfl⟩
  obtain ⟨v21, hv21⟩ : ∃ x, v20.setRow v18.heap.size #[.bool false, .slice P2 2 p2, .slice Q2 2 q2] = x := ⟨_, rfl⟩
  obtain ⟨v22, hv22⟩ : ∃ x, v21.setRow v19.heap.size #[.bool false, .slice R2 2 r2, .slice S2 2 s2] = x := ⟨_, rfl⟩
  have T2 := Lib.hid (two_rows hv19 hv20 hv21 hv22)
  have hqv19 : v19.heap.size = v18.heap.size + 1 := by rw [← hv19]; exact World.size_alloc _ _
  have HQv19 := Lib.hid hqv19
  clear hqv19
  have OF2 := Lib.hid (own2_below OF.out T2.out.1)
  have Bv22 := Lib.hid (below_then' Bv18.out T2.out.1)
  clear Bv18
  have Cv22 := Lib.hid (below_then' Cv18.out T2.out.1)
  clear Cv18
  have Y5 := Lib.hid (keep_row X5.out Cv22.out)
  have Y6 := Lib.hid (keep_row X6.out Cv22.out)
  have Y7 := Lib.hid T2.out.2.2.2.1
  have Y8 := Lib.hid T2.out.2.2.2.2
  clear X5 X6 OF Cv22
  obtain ⟨v23, hv23, bv23, fv23, sv23⟩ := made v22 #[.int .u64 3, .int .u64 5, .int .u64 9] 25
  have Bv23 := Lib.hid (below_then' Bv22.out bv23)
  clear Bv22
  have Cv23 := Lib.hid (bv23)
  have Rv23 := Lib.hid (reads3 fv23)
  clear bv23 fv23 sv23
  go_wp2_with (first | ((with_reducible refine wpList_store_row rfl 24 (.tmp 7) (.tmp 33) rfl v18.heap.size #[.bool false, .slice P2 2 p2, .slice Q2 2 q2] ?_ ?_ 24 _ T2.out.2.1 (size3 _ _ _) ?_ (one3 _ _ _ _ _ _ _) ?_); rfl; rfl; rfl; rw [hv21]) | ((with_reducible refine wpList_store_row rfl 24 (.tmp 8) (.tmp 34) rfl v19.heap.size #[.bool false, .slice R2 2 r2, .slice S2 2 s2] ?_ ?_ 24 _ T2.out.2.2.1 (size3 _ _ _) ?_ (one3 _ _ _ _ _ _ _) ?_); rfl; rfl; rfl; rw [hv22]))
  clear hv19 hv20 hv21 hv22 T2
  clear hv23
  refine (list_at [3, 5, 9] (some ⟨v22.heap.size, 0, none⟩) 3 3 _ Rv23.out (by omega)).mono ?_; rintro e v24 ⟨A5, a5, D5, d5, rfl, ho, hb⟩
  have Bv24 := Lib.hid (below_then' Bv23.out hb)
  clear Bv23
  have Cv24 := Lib.hid (below_then' Cv23.out hb)
  clear Cv23
  have O5 := Lib.hid ho
  clear ho hb Rv23
  go_wp2_with fail
  refine (child_at false [3, 5, 9] (places 3) A5 D5 3 a5 3 d5 1 _ (mine_reads O5.out.k) (mine_reads O5.out.v) (m := 3) (i := 0) rfl (by kernel_rfl)).mono ?_; rintro e v25 ⟨rfl, hb⟩
  have Bv25 := Lib.hid (below_then' Bv24.out hb)
  clear Bv24
  have Cv25 := Lib.hid (below_then' Cv24.out hb)
  clear Cv24
  clear hb O5
  obtain ⟨v26, hv26, bv26, fv26, sv26⟩ := made v25 #[.int .u64 3, .int .u64 5, .int .u64 9] 25
  have Bv26 := Lib.hid (below_then' Bv25.out bv26)
  clear Bv25
  have Cv26 := Lib.hid (below_then' Cv25.out bv26)
  clear Cv25
  have Rv26 := Lib.hid (reads3 fv26)
  clear bv26 fv26 sv26
  go_wp2_with fail
  clear hv26
  refine (list_at [3, 5, 9] (some ⟨v25.heap.size, 0, none⟩) 3 3 _ Rv26.out (by omega)).mono ?_; rintro e v27 ⟨A6, a6, D6, d6, rfl, ho, hb⟩
  have Bv27 := Lib.hid (below_then' Bv26.out hb)
  clear Bv26
  have Cv27 := Lib.hid (below_then' Cv26.out hb)
  clear Cv26
  have O6 := Lib.hid ho
  clear ho hb Rv26
  go_wp2_with fail
  refine (child_at false [3, 5, 9] (places 3) A6 D6 3 a6 3 d6 8 _ (mine_reads O6.out.k) (mine_reads O6.out.v) (m := 3) (i := 1) rfl (by kernel_rfl)).mono ?_; rintro e v28 ⟨rfl, hb⟩
  have Bv28 := Lib.hid (below_then' Bv27.out hb)
  clear Bv27
  have Cv28 := Lib.hid (below_then' Cv27.out hb)
  clear Cv27
  clear hb O6
  have x5 : v28.cell? ⟨v9.heap.size, 1, none⟩ = some (.slice P1 2 p1) := cell_row (keep_row Y5.out Cv28.out) rfl
  have x6 : v28.cell? ⟨v10.heap.size, 1, none⟩ = some (.slice R1 1 r1) := cell_row (keep_row Y6.out Cv28.out) rfl
  have x7 : v28.cell? ⟨v18.heap.size, 1, none⟩ = some (.slice P2 2 p2) := cell_row (keep_row Y7.out Cv28.out) rfl
  have x8 : v28.cell? ⟨v19.heap.size, 1, none⟩ = some (.slice R2 2 r2) := cell_row (keep_row Y8.out Cv28.out) rfl
  obtain ⟨ad, rfl, hc⟩ := cell_at (mine_reads (own2_below OF2.out Cv28.out).k) 0 (by omega)
  have hc0 : v28.cell? ad = some (.int .u64 3) := by rw [show ad.add 0 = ad by simp [Addr.add]] at hc; exact hc
  have hc1 : v28.cell? (ad.add 0) = some (.int .u64 3) := hc
  clear hc
  go_wp2_with fail
  go_ret
  exact ⟨rfl, Bv28.out⟩
end Go.Proofs.Ytdekplalhfpooaa.Knt
